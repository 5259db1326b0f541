import Derived.Test.YtpjkdaechknogaaGreatDoorPt
import Derived.Test.YtpjkdaechknogaaGreatDoorPvPa
import Derived.Test.YtpjkdaechknogaaGreatDoorPvX
import Derived.Test.YtpjkdaechknogaaGreatDoorPvRb
import Derived.Test.YtpjkdaechknogaaGreatDoorPvMa
import Derived.Test.YtpjkdaechknogaaGreatDoorXNaB
import Derived.Test.YtpjkdaechknogaaGreatDoorXLxE
section
/- Contracts: the reference reads. -/
set_option linter.all false
set_option maxHeartbeats 1000000
set_option maxRecDepth 10000
namespace Go.Proofs.YtpjkdaechknogaaGreatDoor
open Go Go.Pv
variable (g : Nat → Option (List AV)) (rnd : Bool)

theorem row_hdK {L : List Tk} {p : Pl} (hk : p.k < L.length) : row (L.map encK) p.k = encK (hdK L p) := by
 rw [row_map _ _ _ hk, hdK, List.getD_eq_getElem?_getD, List.getElem?_eq_getElem hk]; rfl

theorem c_ref07x_Is (L : List Tk) (hn : L.length ≤ 1000000) (p : Pl) (hk : p.k < L.length) (s : Str) : Valid Tryz.prog (G0 g false) 49 [.agg (encP L p), .str s] (.bool (p.is L s)) := by
 have hrow : row (L.map encK) p.k = encK (hdK L p) := row_hdK hk
 refine valid_of [] Tryz.func49 rfl (by kernel_rfl) ?_
 refine AT_seq_region fun K1 hK1 => ?_
 simp [encP, hrow, encK, Tryz.f49]
 repeat refine sg ?_
 refine hK1 _ ?_
 clear hK1 K1
 cases hb : p.bad
 ·
  cases h3 : ((hdK L p).1 != 3)
  ·
   refine AT_seq_region fun K2 hK2 => ?_
   simp [encP, hrow, encK, hb, h3]
   repeat refine sg ?_
   refine hK2 _ ?_
   clear hK2 K2
   refine AT_ret ?_
   simp [encP, hrow, encK, Tryz.f49]
   all_goals first | (simp [Pl.is, hb]; done) | (simp [Pl.is, hb, h3]; done)
  ·
   refine AT_seq_region fun K3 hK3 => ?_
   simp [encP, hrow, encK, hb, h3]
   repeat refine sg ?_
   refine hK3 _ ?_
   clear hK3 K3
   refine AT_ret ?_
   simp [encP, hrow, encK, Tryz.f49]
   all_goals first | (simp [Pl.is, hb]; done) | (simp [Pl.is, hb, h3]; done)
 ·
  refine AT_seq_region fun K4 hK4 => ?_
  simp [encP, hrow, encK, hb]
  repeat refine sg ?_
  refine hK4 _ ?_
  clear hK4 K4
  refine AT_ret ?_
  simp [encP, hrow, encK, Tryz.f49]
  all_goals first | (simp [Pl.is, hb]; done) | (simp [Pl.is, hb, h3]; done)

theorem c_ref07x_Must (L : List Tk) (hn : L.length ≤ 1000000) (p : Pl) (hk : p.k < L.length) (s : Str) : Valid Tryz.prog (G0 g false) 51 [.agg (encP L p), .str s] (.agg (encP L (p.must L s))) := by

 refine valid_of [] Tryz.func51 rfl (by kernel_rfl) ?_
 refine AT_seq_region fun K1 hK1 => ?_
 simp [encP, Tryz.f51]
 repeat refine sg ?_
 refine hK1 _ ?_
 clear hK1 K1
 refine AT_seq_k fun K2 hK2 => ?_
 cases his : p.is L s
 ·
  refine AT_seq_region fun K3 hK3 => ?_
  simp [encP, his]
  repeat refine sg ?_
  refine RVn_call (c_ref07x_Is g L hn p hk s) ?_
  simp [encP, his]
  repeat refine sg ?_
  refine hK3 _ ?_
  clear hK3 K3
  refine AT_cond (b := false) (g := none) (by simp [his]) (fun hb => ?_) (fun hb => ?_)
  ·
   cases hb
  ·
   clear hb
   refine AT_skip ?_
   try simp only [nrm, reduceIte, Nat.reduceEqDiff]
   refine hK2 _ ?_
   refine AT_seq_region fun K4 hK4 => ?_
   simp [encP, his]
   repeat refine sg ?_
   refine hK4 _ ?_
   clear hK4 K4
   refine AT_seq_region fun K5 hK5 => ?_
   simp [encP, his]
   repeat refine sg ?_
   refine hK5 _ ?_
   clear hK5 K5
   refine AT_ret ?_
   simp [encP, Tryz.f51]
   all_goals simp [Pl.must, his, encP, Pl.adv, Pl.fail]
 ·
  refine AT_seq_region fun K6 hK6 => ?_
  simp [encP, his]
  repeat refine sg ?_
  refine RVn_call (c_ref07x_Is g L hn p hk s) ?_
  simp [encP, his]
  repeat refine sg ?_
  refine hK6 _ ?_
  clear hK6 K6
  refine AT_cond (b := true) (g := none) (by simp [his]) (fun hb => ?_) (fun hb => ?_)
  ·
   clear hb
   refine AT_seq_region fun K7 hK7 => ?_
   simp [encP, his]
   repeat refine sg ?_
   refine hK7 _ ?_
   clear hK7 K7
   refine AT_seq_region fun K8 hK8 => ?_
   simp [encP, his]
   repeat refine sg ?_
   refine hK8 _ ?_
   clear hK8 K8
   refine AT_ret ?_
   simp [encP, Tryz.f51]
   all_goals simp [Pl.must, his, encP, Pl.adv, Pl.fail]
  ·
   cases hb

theorem c_ref07x_Name (L : List Tk) (hn : L.length ≤ 1000000) (p : Pl) (hk : p.k < L.length) (hL : ∀ t ∈ L, t.2.1.length ≤ 1000000) : Valid Tryz.prog (G0 g false) 48 [.agg (encP L p)] (.tup [.agg (encP L (p.name L)), .str (p.nm L), .int .i64 (p.at_ L)]) := by
 have hrow : row (L.map encK) p.k = encK (hdK L p) := row_hdK hk
 have htl : (hdK L p).2.1.length ≤ 1000000 := by
   rw [hdK, List.getD_eq_getElem?_getD, List.getElem?_eq_getElem hk]; exact hL _ (by simp)
 refine valid_of [] Tryz.func48 rfl (by kernel_rfl) ?_
 refine AT_seq_region fun K1 hK1 => ?_
 simp [encP, hrow, encK, Tryz.f48]
 repeat refine sg ?_
 refine hK1 _ ?_
 clear hK1 K1
 refine AT_seq_k fun K2 hK2 => ?_
 cases hb : p.bad
 ·
  cases h1 : ((hdK L p).1 == 1)
  ·
   have h1b : ((hdK L p).1 != 1) = true := by simp only [bne, h1]; rfl
   refine AT_seq_region fun K3 hK3 => ?_
   simp [encP, hrow, encK, hb, h1, h1b]
   repeat refine sg ?_
   try (
    refine RVn_call (c_ref01x_Is g false _ (by omega)) ?_
    simp [encP, hrow, encK, hb, h1, h1b]
    repeat refine sg ?_)
   refine hK3 _ ?_
   clear hK3 K3
   refine AT_cond (b := true) (g := none) (by simp [hb, h1, h1b]) (fun hb => ?_) (fun hb => ?_)
   ·
    clear hb
    refine AT_seq_region fun K4 hK4 => ?_
    simp [encP, hrow, encK, hb, h1, h1b]
    repeat refine sg ?_
    refine hK4 _ ?_
    clear hK4 K4
    refine AT_seq_region fun K5 hK5 => ?_
    simp [encP, hrow, encK, hb, h1, h1b]
    repeat refine sg ?_
    refine hK5 _ ?_
    clear hK5 K5
    refine AT_ret ?_
    simp [encP, hrow, encK, Tryz.f48]
    all_goals first | (simp [Pl.name, Pl.nm, Pl.at_, Pl.named, hb, encP, Pl.fail]; done) | (simp [Pl.name, Pl.nm, Pl.at_, Pl.named, hb, h1, encP, Pl.fail]; done) | (simp [Pl.name, Pl.nm, Pl.at_, Pl.named, hb, h1, h2, encP, Pl.fail, Pl.adv]; done)
   ·
    cases hb
  ·
   have h1b : ((hdK L p).1 != 1) = false := by simp only [bne, h1]; rfl
   cases h2 : isName (hdK L p).2.1
   ·
    refine AT_seq_region fun K6 hK6 => ?_
    simp [encP, hrow, encK, hb, h1, h1b, h2]
    repeat refine sg ?_
    try (
     refine RVn_call (c_ref01x_Is g false _ (by omega)) ?_
     simp [encP, hrow, encK, hb, h1, h1b, h2]
     repeat refine sg ?_)
    refine hK6 _ ?_
    clear hK6 K6
    refine AT_cond (b := true) (g := none) (by simp [hb, h1, h1b, h2]) (fun hb => ?_) (fun hb => ?_)
    ·
     clear hb
     refine AT_seq_region fun K7 hK7 => ?_
     simp [encP, hrow, encK, hb, h1, h1b, h2]
     repeat refine sg ?_
     refine hK7 _ ?_
     clear hK7 K7
     refine AT_seq_region fun K8 hK8 => ?_
     simp [encP, hrow, encK, hb, h1, h1b, h2]
     repeat refine sg ?_
     refine hK8 _ ?_
     clear hK8 K8
     refine AT_ret ?_
     simp [encP, hrow, encK, Tryz.f48]
     all_goals first | (simp [Pl.name, Pl.nm, Pl.at_, Pl.named, hb, encP, Pl.fail]; done) | (simp [Pl.name, Pl.nm, Pl.at_, Pl.named, hb, h1, encP, Pl.fail]; done) | (simp [Pl.name, Pl.nm, Pl.at_, Pl.named, hb, h1, h2, encP, Pl.fail, Pl.adv]; done)
    ·
     cases hb
   ·
    refine AT_seq_region fun K9 hK9 => ?_
    simp [encP, hrow, encK, hb, h1, h1b, h2]
    repeat refine sg ?_
    try (
     refine RVn_call (c_ref01x_Is g false _ (by omega)) ?_
     simp [encP, hrow, encK, hb, h1, h1b, h2]
     repeat refine sg ?_)
    refine hK9 _ ?_
    clear hK9 K9
    refine AT_cond (b := false) (g := none) (by simp [hb, h1, h1b, h2]) (fun hb => ?_) (fun hb => ?_)
    ·
     cases hb
    ·
     clear hb
     refine AT_skip ?_
     try simp only [nrm, reduceIte, Nat.reduceEqDiff]
     refine hK2 _ ?_
     refine AT_seq_region fun K10 hK10 => ?_
     simp [encP, hrow, encK, hb, h1, h1b, h2]
     repeat refine sg ?_
     refine hK10 _ ?_
     clear hK10 K10
     refine AT_seq_region fun K11 hK11 => ?_
     simp [encP, hrow, encK, hb, h1, h1b, h2]
     repeat refine sg ?_
     refine hK11 _ ?_
     clear hK11 K11
     refine AT_seq_draw_m false [(1, 1), (2, 2), (5, 5), (42, 5), (44, 5)] Pt.mixed (by kernel_rfl) ⟨by simp [Im, okP, AS.get, look, TV.strip], fun h => by cases h⟩ fun K12 hK12 => ?_
     simp [encP, hrow, encK, hb, h1, h1b, h2]
     repeat refine sg ?_
     refine hK12 _ ?_
     clear hK12 K12
     refine AT_ret ?_
     simp [encP, hrow, encK, Tryz.f48]
     all_goals first | (simp [Pl.name, Pl.nm, Pl.at_, Pl.named, hb, encP, Pl.fail]; done) | (simp [Pl.name, Pl.nm, Pl.at_, Pl.named, hb, h1, encP, Pl.fail]; done) | (simp [Pl.name, Pl.nm, Pl.at_, Pl.named, hb, h1, h2, encP, Pl.fail, Pl.adv]; done)
 ·
  refine AT_seq_region fun K13 hK13 => ?_
  simp [encP, hrow, encK, hb]
  repeat refine sg ?_
  try (
   refine RVn_call (c_ref01x_Is g false _ (by omega)) ?_
   simp [encP, hrow, encK, hb]
   repeat refine sg ?_)
  refine hK13 _ ?_
  clear hK13 K13
  refine AT_cond (b := true) (g := none) (by simp [hb]) (fun hb => ?_) (fun hb => ?_)
  ·
   clear hb
   refine AT_seq_region fun K14 hK14 => ?_
   simp [encP, hrow, encK, hb]
   repeat refine sg ?_
   refine hK14 _ ?_
   clear hK14 K14
   refine AT_seq_region fun K15 hK15 => ?_
   simp [encP, hrow, encK, hb]
   repeat refine sg ?_
   refine hK15 _ ?_
   clear hK15 K15
   refine AT_ret ?_
   simp [encP, hrow, encK, Tryz.f48]
   all_goals first | (simp [Pl.name, Pl.nm, Pl.at_, Pl.named, hb, encP, Pl.fail]; done) | (simp [Pl.name, Pl.nm, Pl.at_, Pl.named, hb, h1, encP, Pl.fail]; done) | (simp [Pl.name, Pl.nm, Pl.at_, Pl.named, hb, h1, h2, encP, Pl.fail, Pl.adv]; done)
  ·
   cases hb

theorem c_ref07x_Finish (L : List Tk) (hn : L.length ≤ 1000000) (p : Pl) (hk : p.k < L.length) : Valid Tryz.prog (G0 g false) 22 [.agg (encP L p)] (.tup [.int .i64 (finR L p).1, .int .i64 (finR L p).2]) := by
 have hrow : row (L.map encK) p.k = encK (hdK L p) := row_hdK hk
 refine valid_of [] Tryz.func22 rfl (by kernel_rfl) ?_
 refine AT_seq_region fun K1 hK1 => ?_
 simp [encP, hrow, encK, Tryz.f22]
 repeat refine sg ?_
 refine hK1 _ ?_
 clear hK1 K1
 refine AT_seq_k fun K2 hK2 => ?_
 cases hb : p.bad
 ·
  cases h3 : ((hdK L p).1 == 3)
  ·
   refine AT_seq_region fun K3 hK3 => ?_
   simp [encP, hrow, encK, hb, h3]
   repeat refine sg ?_
   refine hK3 _ ?_
   clear hK3 K3
   refine AT_cond (b := false) (g := none) (by simp [hb, h3]) (fun hb => ?_) (fun hb => ?_)
   ·
    cases hb
   ·
    clear hb
    refine AT_skip ?_
    try simp only [nrm, reduceIte, Nat.reduceEqDiff]
    refine hK2 _ ?_
    refine AT_seq_draw Pt.mixed (by kernel_rfl) fun K4 hK4 => ?_
    simp [encP, hrow, encK, hb, h3]
    repeat refine sg ?_
    refine hK4 _ ?_
    clear hK4 K4
    refine AT_ret ?_
    simp [encP, hrow, encK, Tryz.f22]
    all_goals first | (simp [finR, hb]; done) | (simp [finR, hb, h3]; done)
  ·
   refine AT_seq_region fun K5 hK5 => ?_
   simp [encP, hrow, encK, hb, h3]
   repeat refine sg ?_
   refine hK5 _ ?_
   clear hK5 K5
   refine AT_cond (b := true) (g := none) (by simp [hb, h3]) (fun hb => ?_) (fun hb => ?_)
   ·
    clear hb
    refine AT_seq_region fun K6 hK6 => ?_
    simp [encP, hrow, encK, hb, h3]
    repeat refine sg ?_
    refine hK6 _ ?_
    clear hK6 K6
    refine AT_ret ?_
    simp [encP, hrow, encK, Tryz.f22]
    all_goals first | (simp [finR, hb]; done) | (simp [finR, hb, h3]; done)
   ·
    cases hb
 ·
  refine AT_seq_region fun K7 hK7 => ?_
  simp [encP, hrow, encK, hb]
  repeat refine sg ?_
  refine hK7 _ ?_
  clear hK7 K7
  refine AT_cond (b := false) (g := none) (by simp [hb]) (fun hb => ?_) (fun hb => ?_)
  ·
   cases hb
  ·
   clear hb
   refine AT_skip ?_
   try simp only [nrm, reduceIte, Nat.reduceEqDiff]
   refine hK2 _ ?_
   refine AT_seq_draw Pt.mixed (by kernel_rfl) fun K8 hK8 => ?_
   simp [encP, hrow, encK, hb]
   repeat refine sg ?_
   refine hK8 _ ?_
   clear hK8 K8
   refine AT_ret ?_
   simp [encP, hrow, encK, Tryz.f22]
   all_goals first | (simp [finR, hb]; done) | (simp [finR, hb, h3]; done)

end Go.Proofs.YtpjkdaechknogaaGreatDoor
end

section
/- Contracts: the reference reads types. -/
set_option linter.all false
set_option maxHeartbeats 1000000
set_option maxRecDepth 10000
namespace Go.Proofs.YtpjkdaechknogaaGreatDoor
open Go Go.Pv
variable (g : Nat → Option (List AV)) (rnd : Bool)

theorem c_ref07x_targs (L : List Tk) (hE : EndsT L) (hn : L.length ≤ 1000000) (q n : Nat) (hT : ∀ p, L.length - p.k < n → p.k < L.length → Valid Tryz.prog (G0 g false) 53 [.agg (encP L p)] (.tup [.agg (encP L (typeR L q p).2), .agg (encTy (typeR L q p).1)])) (p : Pl) (hk : p.k < L.length) (hc : p.is L [91] = true → L.length - p.adv.k < n) : Valid Tryz.prog (G0 g false) 50 [.agg (encP L p)] (.tup [.agg (encP L (targsR L (typeR L q) p).2), .slice ((targsR L (typeR L q) p).1.map encTy)]) := by

 refine valid_of [(4, 25)] Tryz.func50 rfl (by kernel_rfl) ?_
 refine AT_seq_region fun K1 hK1 => ?_
 simp [encP, Tryz.f50]
 repeat refine sg ?_
 refine hK1 _ ?_
 clear hK1 K1
 refine AT_seq_k fun K2 hK2 => ?_
 cases h91 : p.is L [91]
 ·
  refine AT_seq_region fun K3 hK3 => ?_
  simp [encP, h91]
  repeat refine sg ?_
  refine RVn_call ((by have h := c_ref07x_Is g L hn p hk [91]; first | (simp only [encP, hpb] at h; exact h) | exact h)) ?_
  simp [encP, h91]
  repeat refine sg ?_
  refine hK3 _ ?_
  clear hK3 K3
  refine AT_cond (b := true) (g := none) (by simp [h91]) (fun hb => ?_) (fun hb => ?_)
  ·
   clear hb
   refine AT_seq_region fun K4 hK4 => ?_
   simp [encP, h91]
   repeat refine sg ?_
   refine hK4 _ ?_
   clear hK4 K4
   refine AT_ret ?_
   simp [encP, Tryz.f50]
   all_goals first | (rw [hq, tloopR, show Pl.adv ⟨k, false⟩ = ⟨k + 1, false⟩ from rfl, hi]; simp [encP]; done) | (simp [targsR, h91, encP]; done)
  ·
   cases hb
 ·
  have hpb : p.bad = false := (Pl.is_bad h91).1
  have hlt : p.k + 1 < L.length := Pl.adv_lt hE hk h91
  have hcn : L.length - (p.k + 1) < n := hc h91
  refine AT_seq_region fun K5 hK5 => ?_
  simp [encP, h91, hpb]
  repeat refine sg ?_
  refine RVn_call ((by have h := c_ref07x_Is g L hn p hk [91]; first | (simp only [encP, hpb] at h; exact h) | exact h)) ?_
  simp [encP, h91, hpb]
  repeat refine sg ?_
  refine hK5 _ ?_
  clear hK5 K5
  refine AT_cond (b := false) (g := none) (by simp [h91, hpb]) (fun hb => ?_) (fun hb => ?_)
  ·
   cases hb
  ·
   clear hb
   refine AT_skip ?_
   try simp only [nrm, reduceIte, Nat.reduceEqDiff]
   refine hK2 _ ?_
   refine AT_seq_region fun K6 hK6 => ?_
   simp [encP, h91, hpb]
   repeat refine sg ?_
   refine hK6 _ ?_
   clear hK6 K6
   refine AT_seq_k fun K7 hK7 => ?_
   refine AT_block ?_
   refine AT_loop_q [1,2,4] [1,2] (fun j s => ∃ k acc m, targsR L (typeR L q) p = (acc ++ (tloopR L (typeR L q) m ⟨k, false⟩).1, (tloopR L (typeR L q) m ⟨k, false⟩).2) ∧ (k + 1 < L.length ∧ L.length - k ≤ m ∧ L.length - (k + 1) < n) ∧ acc.length ≤ k ∧ j = m ∧ s = { n := 34, tm := [(1, .lp 1 0), (2, .lp 2 0), (4, .v (.slice (acc.map encTy)) (some (4, 25)))], bx := [(1, [.slice (L.map encK), .int .i64 k, .bool false]), (2, [.slice [], .int .i64 0, .bool false])], tb := [], sh := [], hint := [(4, 25)] }) (L.length - p.k) (by first | rfl | simp) ?_ ?_
   ·
    refine ⟨p.k, [], L.length - p.k, ?_, ⟨hlt, Nat.le_refl _, hcn⟩, by simp, rfl, by simp [hpb]⟩
    have hpp : p = ⟨p.k, false⟩ := Pl.eta_ hpb
    rw [targsR, if_pos h91, ← hpp]; simp
   ·
    rintro j s ⟨k, acc, m, hq, ⟨hk1, hk2, hk3⟩, hka, rfl, rfl⟩ K8 hK8
    obtain ⟨m, rfl⟩ : ∃ i, j = i + 1 := ⟨j - 1, by omega⟩
    have hg := typeR_lt hE q ⟨k + 1, false⟩ hk1
    have hgk : k + 1 ≤ (typeR L q ⟨k + 1, false⟩).2.k := hg.1
    refine AT_seq_k fun K9 hK9 => ?_
    refine AT_seq_region fun K10 hK10 => ?_
    simp [encP, h91, hpb]
    repeat refine sg ?_
    refine hK10 _ ?_
    clear hK10 K10
    refine AT_cond (b := true) (g := none) (by simp [h91, hpb]) (fun hb => ?_) (fun hb => ?_)
    ·
     clear hb
     refine AT_skip ?_
     try simp only [nrm, reduceIte, Nat.reduceEqDiff]
     refine hK9 _ ?_
     refine AT_block ?_
     refine AT_seq_region fun K11 hK11 => ?_
     simp [encP, h91, hpb]
     repeat refine sg ?_
     refine hK11 _ ?_
     clear hK11 K11
     refine AT_seq_region fun K12 hK12 => ?_
     simp [encP, h91, hpb]
     repeat refine sg ?_
     refine hK12 _ ?_
     clear hK12 K12
     refine AT_seq_region fun K13 hK13 => ?_
     simp [encP, h91, hpb]
     repeat refine sg ?_
     refine RVn_call ((by have h := hT ⟨k + 1, false⟩ hk3 hk1; simpa [encP] using h)) ?_
     simp [encP, h91, hpb]
     repeat refine sg ?_
     refine hK13 _ ?_
     clear hK13 K13
     refine AT_seq_region fun K14 hK14 => ?_
     simp [encP, h91, hpb]
     repeat refine sg ?_
     refine hK14 _ ?_
     clear hK14 K14
     cases hi : (typeR L q ⟨k + 1, false⟩).2.is L [44]
     ·
      refine AT_seq_region fun K15 hK15 => ?_
      simp [encP, h91, hpb, hi]
      repeat refine sg ?_
      refine RVn_call ((by have h := c_ref07x_Is g L hn (typeR L q ⟨k + 1, false⟩).2 hg.2 [44]; first | (simp only [encP, hib] at h; exact h) | exact h)) ?_
      simp [encP, h91, hpb, hi]
      repeat refine sg ?_
      refine hK15 _ ?_
      clear hK15 K15
      refine AT_cond (b := true) (g := none) (by simp [h91, hpb, hi]) (fun hb => ?_) (fun hb => ?_)
      ·
       clear hb
       refine AT_seq_region fun K16 hK16 => ?_
       simp [encP, h91, hpb, hi]
       repeat refine sg ?_
       refine RVn_call (c_ref07x_Must g L hn (typeR L q ⟨k + 1, false⟩).2 hg.2 [93]) ?_
       simp [encP, h91, hpb, hi]
       repeat refine sg ?_
       refine hK16 _ ?_
       clear hK16 K16
       refine AT_ret ?_
       simp [encP, Tryz.f50]
       all_goals first | (rw [hq, tloopR, show Pl.adv ⟨k, false⟩ = ⟨k + 1, false⟩ from rfl, hi]; simp [encP]; done) | (simp [targsR, h91, encP]; done)
      ·
       cases hb
     ·
      have hib : (typeR L q ⟨k + 1, false⟩).2.bad = false := (Pl.is_bad hi).1
      refine AT_seq_region fun K17 hK17 => ?_
      simp [encP, h91, hpb, hi, hib]
      repeat refine sg ?_
      refine RVn_call ((by have h := c_ref07x_Is g L hn (typeR L q ⟨k + 1, false⟩).2 hg.2 [44]; first | (simp only [encP, hib] at h; exact h) | exact h)) ?_
      simp [encP, h91, hpb, hi, hib]
      repeat refine sg ?_
      refine hK17 _ ?_
      clear hK17 K17
      refine AT_cond (b := false) (g := none) (by simp [h91, hpb, hi, hib]) (fun hb => ?_) (fun hb => ?_)
      ·
       cases hb
      ·
       clear hb
       refine AT_skip ?_
       try simp only [nrm, reduceIte, Nat.reduceEqDiff]
       refine hK8 _ (by first | rfl | simp) (m) (by omega) ?_
       refine ⟨(typeR L q ⟨k + 1, false⟩).2.k, acc ++ [(typeR L q ⟨k + 1, false⟩).1], m, ?_, ⟨Pl.adv_lt hE hg.2 hi, by omega, by omega⟩, by simp; omega, rfl, by simp [hib]⟩
       have hpp : (typeR L q ⟨k + 1, false⟩).2 = ⟨(typeR L q ⟨k + 1, false⟩).2.k, false⟩ := Pl.eta_ hib
       rw [← hpp, hq, tloopR, show Pl.adv ⟨k, false⟩ = ⟨k + 1, false⟩ from rfl, if_pos hi]; simp
    ·
     cases hb

theorem c_ref07x_Type (L : List Tk) (hE : EndsT L) (hn : L.length ≤ 1000000) (hL : ∀ t ∈ L, t.2.1.length ≤ 1000000) : ∀ (n : Nat) (p : Pl), L.length - p.k < n → p.k < L.length → Valid Tryz.prog (G0 g false) 53 [.agg (encP L p)] (.tup [.agg (encP L (typeR L n p).2), .agg (encTy (typeR L n p).1)]) := by
 intro n
 induction n with
 | zero => intro p hc; omega
 | succ q ih =>
 intro p hc hk
 have hnl := Pl.name_lt hE hk
 have hnx : (p.name L).is L [91] = true → L.length - (p.name L).adv.k < q := fun h => by
   have h1 : p.k + 1 = (p.name L).k := by
     have h2 := Pl.is_bad h
     unfold Pl.name at h2 ⊢
     split
     · rfl
     · rename_i h3; rw [if_neg h3] at h2; cases h2.1
   have h4 : (p.name L).adv.k = (p.name L).k + 1 := rfl
   omega
 refine valid_of [] Tryz.func53 rfl (by kernel_rfl) ?_
 refine AT_seq_region fun K1 hK1 => ?_
 simp [encP, Tryz.f53]
 repeat refine sg ?_
 refine hK1 _ ?_
 clear hK1 K1
 refine AT_seq_region fun K2 hK2 => ?_
 simp [encP]
 repeat refine sg ?_
 refine hK2 _ ?_
 clear hK2 K2
 refine AT_seq_region fun K3 hK3 => ?_
 simp [encP]
 repeat refine sg ?_
 refine RVn_call (c_ref07x_Name g L hn p hk hL) ?_
 simp [encP]
 repeat refine sg ?_
 refine hK3 _ ?_
 clear hK3 K3
 refine AT_seq_k fun K4 hK4 => ?_
 cases hb : (p.name L).bad
 ·
  refine AT_seq_region fun K5 hK5 => ?_
  simp [encP, hb]
  repeat refine sg ?_
  refine hK5 _ ?_
  clear hK5 K5
  refine AT_cond (b := false) (g := none) (by simp [hb]) (fun hb => ?_) (fun hb => ?_)
  ·
   cases hb
  ·
   clear hb
   refine AT_skip ?_
   try simp only [nrm, reduceIte, Nat.reduceEqDiff]
   refine hK4 _ ?_
   refine AT_seq_region fun K6 hK6 => ?_
   simp [encP, hb]
   repeat refine sg ?_
   refine RVn_call ((by have h := c_ref07x_targs g L hE hn q q ih (p.name L) hnl.2 hnx; simp only [encP, hb] at h; exact h)) ?_
   simp [encP, hb]
   repeat refine sg ?_
   refine hK6 _ ?_
   clear hK6 K6
   refine AT_seq_draw_m false [(1, 1), (2, 2), (3, 3), (4, 4)] Pt.mixed (by kernel_rfl) ⟨by simp [Im, okP, AS.get, look, TV.strip], fun h => by cases h⟩ fun K7 hK7 => ?_
   simp [encP, hb]
   repeat refine sg ?_
   refine hK7 _ ?_
   clear hK7 K7
   refine AT_ret ?_
   simp [encP, Tryz.f53]
   all_goals first | (simp [typeR, targsR, his, hb, encP, encTy_mk]; done) | (simp [typeR, hb, encP, encTy_mk]; done)
 ·
  have his : (p.name L).is L [91] = false := by simp [Pl.is, hb]
  refine AT_seq_region fun K8 hK8 => ?_
  simp [encP, hb]
  repeat refine sg ?_
  refine hK8 _ ?_
  clear hK8 K8
  refine AT_cond (b := true) (g := none) (by simp [hb]) (fun hb => ?_) (fun hb => ?_)
  ·
   clear hb
   refine AT_seq_draw_m false [(1, 1), (2, 2), (3, 3), (4, 4)] Pt.mixed (by kernel_rfl) ⟨by simp [Im, okP, AS.get, look, TV.strip], fun h => by cases h⟩ fun K9 hK9 => ?_
   simp [encP, hb]
   repeat refine sg ?_
   refine hK9 _ ?_
   clear hK9 K9
   refine AT_ret ?_
   simp [encP, Tryz.f53]
   all_goals first | (simp [typeR, targsR, his, hb, encP, encTy_mk]; done) | (simp [typeR, hb, encP, encTy_mk]; done)
  ·
   cases hb

end Go.Proofs.YtpjkdaechknogaaGreatDoor
end

section
/- Contracts. -/
set_option linter.all false
set_option maxHeartbeats 1000000
set_option maxRecDepth 10000
namespace Go.Proofs.YtpjkdaechknogaaGreatDoor
open Go Go.Pv
variable (g : Nat → Option (List AV)) (rnd : Bool)

theorem c_cmp_isNaN_string (s : Str) : Valid Tryz.prog (G0 g rnd) 103 [.str s] (.bool false) := by

 refine valid_of [] Tryz.func103 rfl (by kernel_rfl) ?_
 refine AT_seq_region fun K1 hK1 => ?_
 simp [Tryz.f103]
 repeat refine sg ?_
 refine hK1 _ ?_
 clear hK1 K1
 refine AT_seq_region fun K2 hK2 => ?_
 simp
 repeat refine sg ?_
 refine hK2 _ ?_
 clear hK2 K2
 refine AT_ret ?_
 simp [Tryz.f103]

theorem c_cmp_Compare_string (a b : Str) : Valid Tryz.prog (G0 g rnd) 102 [.str a, .str b] (.int .i64 (cmpS a b)) := by

 refine valid_of [] Tryz.func102 rfl (by kernel_rfl) ?_
 refine AT_seq_region fun K1 hK1 => ?_
 simp [Tryz.f102]
 repeat refine sg ?_
 refine hK1 _ ?_
 clear hK1 K1
 refine AT_seq_region fun K2 hK2 => ?_
 simp
 repeat refine sg ?_
 refine RVn_call (c_cmp_isNaN_string g rnd _) ?_
 simp
 repeat refine sg ?_
 refine hK2 _ ?_
 clear hK2 K2
 refine AT_seq_region fun K3 hK3 => ?_
 simp
 repeat refine sg ?_
 refine RVn_call (c_cmp_isNaN_string g rnd _) ?_
 simp
 repeat refine sg ?_
 refine hK3 _ ?_
 clear hK3 K3
 refine AT_seq_k fun K4 hK4 => ?_
 refine AT_seq_region fun K5 hK5 => ?_
 simp
 repeat refine sg ?_
 refine hK5 _ ?_
 clear hK5 K5
 refine AT_cond (b := false) (g := none) (by simp) (fun hb => ?_) (fun hb => ?_)
 ·
  cases hb
 ·
  clear hb
  refine AT_skip ?_
  try simp only [nrm, reduceIte, Nat.reduceEqDiff]
  refine hK4 _ ?_
  refine AT_seq_k fun K6 hK6 => ?_
  refine AT_seq_region fun K7 hK7 => ?_
  simp
  repeat refine sg ?_
  refine hK7 _ ?_
  clear hK7 K7
  refine AT_cond (b := false) (g := none) (by simp) (fun hb => ?_) (fun hb => ?_)
  ·
   cases hb
  ·
   clear hb
   refine AT_skip ?_
   try simp only [nrm, reduceIte, Nat.reduceEqDiff]
   refine hK6 _ ?_
   refine AT_seq_k fun K8 hK8 => ?_
   refine AT_seq_region fun K9 hK9 => ?_
   simp
   repeat refine sg ?_
   refine hK9 _ ?_
   clear hK9 K9
   refine AT_cond (g := none) rfl (fun hb16 => ?_) (fun hb16 => ?_)
   ·
    try simp at hb16
    refine AT_seq_region fun K10 hK10 => ?_
    simp [hb16]
    repeat refine sg ?_
    refine hK10 _ ?_
    clear hK10 K10
    refine AT_ret ?_
    simp [Tryz.f102]
    unfold cmpS; cases hh : Op.bytesLess a b <;> by_cases he : a = b <;> simp_all
   ·
    try simp at hb16
    refine AT_skip ?_
    try simp only [nrm, reduceIte, Nat.reduceEqDiff]
    refine hK8 _ ?_
    refine AT_seq_k fun K11 hK11 => ?_
    refine AT_seq_region fun K12 hK12 => ?_
    simp [hb16]
    repeat refine sg ?_
    refine hK12 _ ?_
    clear hK12 K12
    refine AT_cond (g := none) rfl (fun hb19 => ?_) (fun hb19 => ?_)
    ·
     try simp [hb16] at hb19
     refine AT_seq_region fun K13 hK13 => ?_
     simp [hb16, hb19]
     repeat refine sg ?_
     refine hK13 _ ?_
     clear hK13 K13
     refine AT_ret ?_
     simp [Tryz.f102]
     unfold cmpS; cases hh : Op.bytesLess a b <;> by_cases he : a = b <;> simp_all
    ·
     try simp [hb16] at hb19
     refine AT_skip ?_
     try simp only [nrm, reduceIte, Nat.reduceEqDiff]
     refine hK11 _ ?_
     refine AT_seq_region fun K14 hK14 => ?_
     simp [hb16, hb19]
     repeat refine sg ?_
     refine hK14 _ ?_
     clear hK14 K14
     refine AT_ret ?_
     simp [Tryz.f102]
     unfold cmpS; cases hh : Op.bytesLess a b <;> by_cases he : a = b <;> simp_all

theorem c_name_Compare (a b : Str) : Valid Tryz.prog (G0 g rnd) 99 [.str a, .str b] (.int .i64 (cmpS a b)) := by

 refine valid_of [] Tryz.func99 rfl (by kernel_rfl) ?_
 refine AT_seq_region fun K1 hK1 => ?_
 simp [Tryz.f99]
 repeat refine sg ?_
 refine hK1 _ ?_
 clear hK1 K1
 refine AT_seq_region fun K2 hK2 => ?_
 simp
 repeat refine sg ?_
 refine RVn_call (c_cmp_Compare_string g rnd _ _) ?_
 simp
 repeat refine sg ?_
 refine hK2 _ ?_
 clear hK2 K2
 refine AT_ret ?_
 simp [Tryz.f99]

end Go.Proofs.YtpjkdaechknogaaGreatDoor
end

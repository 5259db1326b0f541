import Derived.Test.YtpjkdaechknogaaDoorPt
import Derived.Test.YtpjkdaechknogaaDoorPvPb
import Derived.Test.YtpjkdaechknogaaDoorPvY
import Derived.Test.YtpjkdaechknogaaDoorPvRb
import Derived.Test.YtpjkdaechknogaaDoorXNaB
import Derived.Test.YtpjkdaechknogaaDoorXLxE
section
/- Contracts: the reference reads. -/
set_option linter.all false
set_option maxHeartbeats 1000000
set_option maxRecDepth 10000
namespace Go.Proofs.YtpjkdaechknogaaDoor
open Go Go.Pv
variable (g : Nat → Option (List AV)) (rnd : Bool)

theorem row_hdK {L : List Tk} {p : Pl} (hk : p.k < L.length) : row (L.map encK) p.k = encK (hdK L p) := by
 rw [row_map _ _ _ hk, hdK, List.getD_eq_getElem?_getD, List.getElem?_eq_getElem hk]; rfl

theorem c_ref07x_Is (L : List Tk) (hn : L.length ≤ 1000000) (p : Pl) (hk : p.k < L.length) (s : Str) : Valid Tryd.prog (G0 g false) 23 [.agg (encP L p), .str s] (.bool (p.is L s)) := by
 have hrow : row (L.map encK) p.k = encK (hdK L p) := row_hdK hk
 refine valid_of [] Tryd.func23 rfl (by kernel_rfl) ?_
 refine AT_seq_region fun K1 hK1 => ?_
 simp [encP, hrow, encK, Tryd.f23]
 repeat refine sg ?_
 refine hK1 _ ?_
 clear hK1 K1
 cases hb : p.bad
 ·
  cases h3 : ((hdK L p).1 != 3)
  ·
   refine AT_seq_region fun K2 hK2 => ?_
   simp [encP, hrow, encK, hb, h3]
   repeat refine sg ?_
   refine hK2 _ ?_
   clear hK2 K2
   refine AT_ret ?_
   simp [encP, hrow, encK, Tryd.f23]
   all_goals first | (simp [Pl.is, hb]; done) | (simp [Pl.is, hb, h3]; done)
  ·
   refine AT_seq_region fun K3 hK3 => ?_
   simp [encP, hrow, encK, hb, h3]
   repeat refine sg ?_
   refine hK3 _ ?_
   clear hK3 K3
   refine AT_ret ?_
   simp [encP, hrow, encK, Tryd.f23]
   all_goals first | (simp [Pl.is, hb]; done) | (simp [Pl.is, hb, h3]; done)
 ·
  refine AT_seq_region fun K4 hK4 => ?_
  simp [encP, hrow, encK, hb]
  repeat refine sg ?_
  refine hK4 _ ?_
  clear hK4 K4
  refine AT_ret ?_
  simp [encP, hrow, encK, Tryd.f23]
  all_goals first | (simp [Pl.is, hb]; done) | (simp [Pl.is, hb, h3]; done)

theorem c_ref07x_Name (L : List Tk) (hn : L.length ≤ 1000000) (p : Pl) (hk : p.k < L.length) (hL : ∀ t ∈ L, t.2.1.length ≤ 1000000) : Valid Tryd.prog (G0 g false) 22 [.agg (encP L p)] (.tup [.agg (encP L (p.name L)), .str (p.nm L), .int .i64 (p.at_ L)]) := by
 have hrow : row (L.map encK) p.k = encK (hdK L p) := row_hdK hk
 have htl : (hdK L p).2.1.length ≤ 1000000 := by
   rw [hdK, List.getD_eq_getElem?_getD, List.getElem?_eq_getElem hk]; exact hL _ (by simp)
 refine valid_of [] Tryd.func22 rfl (by kernel_rfl) ?_
 refine AT_seq_region fun K1 hK1 => ?_
 simp [encP, hrow, encK, Tryd.f22]
 repeat refine sg ?_
 refine hK1 _ ?_
 clear hK1 K1
 refine AT_seq_k fun K2 hK2 => ?_
 cases hb : p.bad
 ·
  cases h1 : ((hdK L p).1 == 1)
  ·
   have h1b : ((hdK L p).1 != 1) = true := by simp only [bne, h1]; rfl
   refine AT_seq_region fun K3 hK3 => ?_
   simp [encP, hrow, encK, hb, h1, h1b]
   repeat refine sg ?_
   try (
    refine RVn_call (c_ref01x_Is g false _ (by omega)) ?_
    simp [encP, hrow, encK, hb, h1, h1b]
    repeat refine sg ?_)
   refine hK3 _ ?_
   clear hK3 K3
   refine AT_cond (b := true) (g := none) (by simp [hb, h1, h1b]) (fun hb => ?_) (fun hb => ?_)
   ·
    clear hb
    refine AT_seq_region fun K4 hK4 => ?_
    simp [encP, hrow, encK, hb, h1, h1b]
    repeat refine sg ?_
    refine hK4 _ ?_
    clear hK4 K4
    refine AT_seq_region fun K5 hK5 => ?_
    simp [encP, hrow, encK, hb, h1, h1b]
    repeat refine sg ?_
    refine hK5 _ ?_
    clear hK5 K5
    refine AT_ret ?_
    simp [encP, hrow, encK, Tryd.f22]
    all_goals first | (simp [Pl.name, Pl.nm, Pl.at_, Pl.named, hb, encP, Pl.fail]; done) | (simp [Pl.name, Pl.nm, Pl.at_, Pl.named, hb, h1, encP, Pl.fail]; done) | (simp [Pl.name, Pl.nm, Pl.at_, Pl.named, hb, h1, h2, encP, Pl.fail, Pl.adv]; done)
   ·
    cases hb
  ·
   have h1b : ((hdK L p).1 != 1) = false := by simp only [bne, h1]; rfl
   cases h2 : isName (hdK L p).2.1
   ·
    refine AT_seq_region fun K6 hK6 => ?_
    simp [encP, hrow, encK, hb, h1, h1b, h2]
    repeat refine sg ?_
    try (
     refine RVn_call (c_ref01x_Is g false _ (by omega)) ?_
     simp [encP, hrow, encK, hb, h1, h1b, h2]
     repeat refine sg ?_)
    refine hK6 _ ?_
    clear hK6 K6
    refine AT_cond (b := true) (g := none) (by simp [hb, h1, h1b, h2]) (fun hb => ?_) (fun hb => ?_)
    ·
     clear hb
     refine AT_seq_region fun K7 hK7 => ?_
     simp [encP, hrow, encK, hb, h1, h1b, h2]
     repeat refine sg ?_
     refine hK7 _ ?_
     clear hK7 K7
     refine AT_seq_region fun K8 hK8 => ?_
     simp [encP, hrow, encK, hb, h1, h1b, h2]
     repeat refine sg ?_
     refine hK8 _ ?_
     clear hK8 K8
     refine AT_ret ?_
     simp [encP, hrow, encK, Tryd.f22]
     all_goals first | (simp [Pl.name, Pl.nm, Pl.at_, Pl.named, hb, encP, Pl.fail]; done) | (simp [Pl.name, Pl.nm, Pl.at_, Pl.named, hb, h1, encP, Pl.fail]; done) | (simp [Pl.name, Pl.nm, Pl.at_, Pl.named, hb, h1, h2, encP, Pl.fail, Pl.adv]; done)
    ·
     cases hb
   ·
    refine AT_seq_region fun K9 hK9 => ?_
    simp [encP, hrow, encK, hb, h1, h1b, h2]
    repeat refine sg ?_
    try (
     refine RVn_call (c_ref01x_Is g false _ (by omega)) ?_
     simp [encP, hrow, encK, hb, h1, h1b, h2]
     repeat refine sg ?_)
    refine hK9 _ ?_
    clear hK9 K9
    refine AT_cond (b := false) (g := none) (by simp [hb, h1, h1b, h2]) (fun hb => ?_) (fun hb => ?_)
    ·
     cases hb
    ·
     clear hb
     refine AT_skip ?_
     try simp only [nrm, reduceIte, Nat.reduceEqDiff]
     refine hK2 _ ?_
     refine AT_seq_region fun K10 hK10 => ?_
     simp [encP, hrow, encK, hb, h1, h1b, h2]
     repeat refine sg ?_
     refine hK10 _ ?_
     clear hK10 K10
     refine AT_seq_region fun K11 hK11 => ?_
     simp [encP, hrow, encK, hb, h1, h1b, h2]
     repeat refine sg ?_
     refine hK11 _ ?_
     clear hK11 K11
     refine AT_seq_draw_m false [(1, 1), (2, 2), (5, 5), (42, 5), (44, 5)] Pt.mixed (by kernel_rfl) ⟨by simp [Im, okP, AS.get, look, TV.strip], fun h => by cases h⟩ fun K12 hK12 => ?_
     simp [encP, hrow, encK, hb, h1, h1b, h2]
     repeat refine sg ?_
     refine hK12 _ ?_
     clear hK12 K12
     refine AT_ret ?_
     simp [encP, hrow, encK, Tryd.f22]
     all_goals first | (simp [Pl.name, Pl.nm, Pl.at_, Pl.named, hb, encP, Pl.fail]; done) | (simp [Pl.name, Pl.nm, Pl.at_, Pl.named, hb, h1, encP, Pl.fail]; done) | (simp [Pl.name, Pl.nm, Pl.at_, Pl.named, hb, h1, h2, encP, Pl.fail, Pl.adv]; done)
 ·
  refine AT_seq_region fun K13 hK13 => ?_
  simp [encP, hrow, encK, hb]
  repeat refine sg ?_
  try (
   refine RVn_call (c_ref01x_Is g false _ (by omega)) ?_
   simp [encP, hrow, encK, hb]
   repeat refine sg ?_)
  refine hK13 _ ?_
  clear hK13 K13
  refine AT_cond (b := true) (g := none) (by simp [hb]) (fun hb => ?_) (fun hb => ?_)
  ·
   clear hb
   refine AT_seq_region fun K14 hK14 => ?_
   simp [encP, hrow, encK, hb]
   repeat refine sg ?_
   refine hK14 _ ?_
   clear hK14 K14
   refine AT_seq_region fun K15 hK15 => ?_
   simp [encP, hrow, encK, hb]
   repeat refine sg ?_
   refine hK15 _ ?_
   clear hK15 K15
   refine AT_ret ?_
   simp [encP, hrow, encK, Tryd.f22]
   all_goals first | (simp [Pl.name, Pl.nm, Pl.at_, Pl.named, hb, encP, Pl.fail]; done) | (simp [Pl.name, Pl.nm, Pl.at_, Pl.named, hb, h1, encP, Pl.fail]; done) | (simp [Pl.name, Pl.nm, Pl.at_, Pl.named, hb, h1, h2, encP, Pl.fail, Pl.adv]; done)
  ·
   cases hb

theorem c_ref07x_Finish (L : List Tk) (hn : L.length ≤ 1000000) (p : Pl) (hk : p.k < L.length) : Valid Tryd.prog (G0 g false) 28 [.agg (encP L p)] (.tup [.int .i64 (finR L p).1, .int .i64 (finR L p).2]) := by
 have hrow : row (L.map encK) p.k = encK (hdK L p) := row_hdK hk
 refine valid_of [] Tryd.func28 rfl (by kernel_rfl) ?_
 refine AT_seq_region fun K1 hK1 => ?_
 simp [encP, hrow, encK, Tryd.f28]
 repeat refine sg ?_
 refine hK1 _ ?_
 clear hK1 K1
 refine AT_seq_k fun K2 hK2 => ?_
 cases hb : p.bad
 ·
  cases h3 : ((hdK L p).1 == 3)
  ·
   refine AT_seq_region fun K3 hK3 => ?_
   simp [encP, hrow, encK, hb, h3]
   repeat refine sg ?_
   refine hK3 _ ?_
   clear hK3 K3
   refine AT_cond (b := false) (g := none) (by simp [hb, h3]) (fun hb => ?_) (fun hb => ?_)
   ·
    cases hb
   ·
    clear hb
    refine AT_skip ?_
    try simp only [nrm, reduceIte, Nat.reduceEqDiff]
    refine hK2 _ ?_
    refine AT_seq_draw Pt.mixed (by kernel_rfl) fun K4 hK4 => ?_
    simp [encP, hrow, encK, hb, h3]
    repeat refine sg ?_
    refine hK4 _ ?_
    clear hK4 K4
    refine AT_ret ?_
    simp [encP, hrow, encK, Tryd.f28]
    all_goals first | (simp [finR, hb]; done) | (simp [finR, hb, h3]; done)
  ·
   refine AT_seq_region fun K5 hK5 => ?_
   simp [encP, hrow, encK, hb, h3]
   repeat refine sg ?_
   refine hK5 _ ?_
   clear hK5 K5
   refine AT_cond (b := true) (g := none) (by simp [hb, h3]) (fun hb => ?_) (fun hb => ?_)
   ·
    clear hb
    refine AT_seq_region fun K6 hK6 => ?_
    simp [encP, hrow, encK, hb, h3]
    repeat refine sg ?_
    refine hK6 _ ?_
    clear hK6 K6
    refine AT_ret ?_
    simp [encP, hrow, encK, Tryd.f28]
    all_goals first | (simp [finR, hb]; done) | (simp [finR, hb, h3]; done)
   ·
    cases hb
 ·
  refine AT_seq_region fun K7 hK7 => ?_
  simp [encP, hrow, encK, hb]
  repeat refine sg ?_
  refine hK7 _ ?_
  clear hK7 K7
  refine AT_cond (b := false) (g := none) (by simp [hb]) (fun hb => ?_) (fun hb => ?_)
  ·
   cases hb
  ·
   clear hb
   refine AT_skip ?_
   try simp only [nrm, reduceIte, Nat.reduceEqDiff]
   refine hK2 _ ?_
   refine AT_seq_draw Pt.mixed (by kernel_rfl) fun K8 hK8 => ?_
   simp [encP, hrow, encK, hb]
   repeat refine sg ?_
   refine hK8 _ ?_
   clear hK8 K8
   refine AT_ret ?_
   simp [encP, hrow, encK, Tryd.f28]
   all_goals first | (simp [finR, hb]; done) | (simp [finR, hb, h3]; done)

end Go.Proofs.YtpjkdaechknogaaDoor
end

section
/- Contracts: the reference reads types. -/
set_option linter.all false
set_option maxHeartbeats 1000000
set_option maxRecDepth 10000
namespace Go.Proofs.YtpjkdaechknogaaDoor
open Go Go.Pv
variable (g : Nat → Option (List AV)) (rnd : Bool)

end Go.Proofs.YtpjkdaechknogaaDoor
end

/- From data to declarations and programs. -/
import Derived.Test.YtepbmjchhcmcoaaGreatDoorPvMe
import Derived.Test.YtepbmjchhcmcoaaGreatDoorPvDb
set_option linter.all false
namespace Go.Pv
open Go

structure DTys (P : Program) where
  S : Nat
  I : Nat
  L : Nat
  T : Nat
  X : Nat
  E : Nat
  SL : Nat
  FL : Nat
  F : Nat
  QL : Nat
  Q : Nat
  GL : Nat
  G : Nat
  hS : P.underlying S = some .string
  hI : P.underlying I = some (.int .i64)
  hL : P.underlying L = some (.slice T)
  hF : ftypes P T = some [S, L, I]
  hb : 0 < P.bytesOf T
  hX : P.underlying X = some (.slice E)
  hE : ftypes P E = some [I, S, T, L, X, I]
  hbe : 0 < P.bytesOf E
  hSL : P.underlying SL = some (.slice S)
  hbs : 0 < P.bytesOf S
  hFL : P.underlying FL = some (.slice F)
  hFF : ftypes P F = some [S, T, I]
  hbf : 0 < P.bytesOf F
  hQL : P.underlying QL = some (.slice Q)
  hQQ : ftypes P Q = some [S, T, I]
  hbq : 0 < P.bytesOf Q
  hGL : P.underlying GL = some (.slice G)
  hGG : ftypes P G = some [S, FL, QL, T, I]
  hbg : 0 < P.bytesOf G

section
variable {H : Type} {P : Program}

theorem fm_of (c : DTys P) {F : Nat} (hFF : ftypes P F = some [c.S, c.T, c.I]) (n : Nat) (d : DataW H) (h : typed P n F d) (hw : (d.weights P F).all (· ≤ reachBytes) = true) : ∃ f : Fm, avOf d = encF f ∧ fitF f := by
  obtain ⟨m, ps, rfl, rfl, hps, hwe⟩ := typed_struct hFF h
  rw [hwe] at hw
  match ps, hps with
  | [s, t, p], ⟨hs, ht, hp, _⟩ =>
    obtain ⟨w1, hw⟩ := weightsEach_cons hw
    obtain ⟨w2, hw⟩ := weightsEach_cons hw
    obtain ⟨s, hs1, hs2⟩ := str_of c.hS hs w1
    obtain ⟨⟨tn, tas, tp⟩, ht1, ht2⟩ := ty_of c.hS c.hI c.hL c.hF c.hb m _ ht w2
    obtain ⟨p, rfl, -⟩ := typed_int c.hI hp
    exact ⟨⟨s, .mk tn tas tp, p⟩, by simp [avOf, avFlat, hs1, ht1, encF, encTy_mk], hs2, ht2⟩
theorem fms_of (c : DTys P) {F FL : Nat} (hFL : P.underlying FL = some (.slice F)) (hFF : ftypes P F = some [c.S, c.T, c.I]) (hbf : 0 < P.bytesOf F) (n : Nat) (d : DataW H) (h : typed P n FL d) (hw : (d.weights P FL).all (· ≤ reachBytes) = true) :
    ∃ l : List Fm, avOf d = [.slice (l.map encF)] ∧ fitFs l := by
  obtain ⟨q, rfl, hq⟩ := typed_slice hFL h
  rcases hq with rfl | ⟨es, sp, rfl, hq⟩
  · exact ⟨[], rfl, by simp, fun f hf => by cases hf⟩
  · obtain ⟨g1, g2⟩ := weights_slice hFL hbf hw
    obtain ⟨l, e1, e2, e3⟩ := rows_of (enc := encF) (good := fitF) es (fun x hx => fm_of c hFF q x (hq x hx) (g2 x hx))
    exact ⟨l, by simp [avOf, e1], by omega, e3⟩
theorem sg_of (c : DTys P) (n : Nat) (d : DataW H) (h : typed P n c.G d) (hw : (d.weights P c.G).all (· ≤ reachBytes) = true) : ∃ s : Sg, avOf d = encG s ∧ fitG s := by
  obtain ⟨m, ps, rfl, rfl, hps, hwe⟩ := typed_struct c.hGG h
  rw [hwe] at hw
  match ps, hps with
  | [s, f, q, t, p], ⟨hs, hf, hq, ht, hp, _⟩ =>
    obtain ⟨w1, hw⟩ := weightsEach_cons hw
    obtain ⟨w2, hw⟩ := weightsEach_cons hw
    obtain ⟨w3, hw⟩ := weightsEach_cons hw
    obtain ⟨w4, hw⟩ := weightsEach_cons hw
    obtain ⟨s, hs1, hs2⟩ := str_of c.hS hs w1
    obtain ⟨f, hf1, hf2⟩ := fms_of c c.hFL c.hFF c.hbf m _ hf w2
    obtain ⟨q, hq1, hq2⟩ := fms_of c c.hQL c.hQQ c.hbq m _ hq w3
    obtain ⟨⟨tn, tas, tp⟩, ht1, ht2⟩ := ty_of c.hS c.hI c.hL c.hF c.hb m _ ht w4
    obtain ⟨p, rfl, -⟩ := typed_int c.hI hp
    exact ⟨⟨s, f, q, .mk tn tas tp, p⟩, by simp [avOf, avFlat, hs1, hf1, hq1, ht1, encG, encTy_mk], hs2, hf2, hq2, ht2⟩
theorem sgs_of (c : DTys P) (n : Nat) (d : DataW H) (h : typed P n c.GL d) (hw : (d.weights P c.GL).all (· ≤ reachBytes) = true) : ∃ l : List Sg, avOf d = [.slice (l.map encG)] ∧ l.length ≤ 140737488355328 ∧ ∀ s ∈ l, fitG s := by
  obtain ⟨q, rfl, hq⟩ := typed_slice c.hGL h
  rcases hq with rfl | ⟨es, sp, rfl, hq⟩
  · exact ⟨[], rfl, by simp, fun f hf => by cases hf⟩
  · obtain ⟨g1, g2⟩ := weights_slice c.hGL c.hbg hw
    obtain ⟨l, e1, e2, e3⟩ := rows_of (enc := encG) (good := fitG) es (fun x hx => sg_of c q x (hq x hx) (g2 x hx))
    exact ⟨l, by simp [avOf, e1], by omega, e3⟩
theorem dc_of (c : DTys P) {D : Nat} (hD : ftypes P D = some [c.I, c.S, c.FL, c.QL, c.GL, c.S, c.SL, c.G, c.E, c.I]) (n : Nat) (d : DataW H) (h : typed P n D d) (hw : (d.weights P D).all (· ≤ reachBytes) = true) : ∃ x : Dc, avOf d = encD x ∧ fitD x := by
  obtain ⟨m, ps, rfl, rfl, hps, hwe⟩ := typed_struct hD h
  rw [hwe] at hw
  match ps, hps with
  | [k, s, f, q, g, r, v, sg, b, p], ⟨hk, hs, hf, hq, hg, hr, hv, hsg, hb, hp, _⟩ =>
    obtain ⟨w1, hw⟩ := weightsEach_cons hw
    obtain ⟨w2, hw⟩ := weightsEach_cons hw
    obtain ⟨w3, hw⟩ := weightsEach_cons hw
    obtain ⟨w4, hw⟩ := weightsEach_cons hw
    obtain ⟨w5, hw⟩ := weightsEach_cons hw
    obtain ⟨w6, hw⟩ := weightsEach_cons hw
    obtain ⟨w7, hw⟩ := weightsEach_cons hw
    obtain ⟨w8, hw⟩ := weightsEach_cons hw
    obtain ⟨w9, hw⟩ := weightsEach_cons hw
    obtain ⟨k, rfl, -⟩ := typed_int c.hI hk
    obtain ⟨s, hs1, hs2⟩ := str_of c.hS hs w2
    obtain ⟨f, hf1, hf2⟩ := fms_of c c.hFL c.hFF c.hbf m _ hf w3
    obtain ⟨q, hq1, hq2⟩ := fms_of c c.hQL c.hQQ c.hbq m _ hq w4
    obtain ⟨g, hg1, hg2⟩ := sgs_of c m _ hg w5
    obtain ⟨r, hr1, hr2⟩ := str_of c.hS hr w6
    obtain ⟨v, hv1, hv2⟩ := strs_of c.hS c.hSL c.hbs m _ hv w7
    obtain ⟨sg, hsg1, hsg2⟩ := sg_of c m _ hsg w8
    obtain ⟨b, hb1, hb2⟩ := exp_of c.hS c.hI c.hL c.hF c.hb c.hX c.hE c.hbe m _ hb w9
    obtain ⟨p, rfl, -⟩ := typed_int c.hI hp
    exact ⟨⟨k, s, f, q, g, r, v, sg, b, p⟩, by simp [avOf, avFlat, hs1, hf1, hq1, hg1, hr1, hv1, hsg1, hb1, encD, encG, encE_def], hs2, hf2, hq2, hg2, hr2, hv2, hsg2, hb2⟩
theorem pg_of (c : DTys P) {D DL Z : Nat} (hD : ftypes P D = some [c.I, c.S, c.FL, c.QL, c.GL, c.S, c.SL, c.G, c.E, c.I]) (hDL : P.underlying DL = some (.slice D)) (hbd : 0 < P.bytesOf D) (hZ : ftypes P Z = some [DL, c.E]) (n : Nat) (d : DataW H) (h : typed P n Z d) (hw : (d.weights P Z).all (· ≤ reachBytes) = true) : ∃ x : Pg, avOf d = encPg x ∧ fitPg x := by
  obtain ⟨m, ps, rfl, rfl, hps, hwe⟩ := typed_struct hZ h
  rw [hwe] at hw
  match ps, hps with
  | [ds, b], ⟨hds, hb, _⟩ =>
    obtain ⟨w1, hw⟩ := weightsEach_cons hw
    obtain ⟨w2, hw⟩ := weightsEach_cons hw
    obtain ⟨b, hb1, hb2⟩ := exp_of c.hS c.hI c.hL c.hF c.hb c.hX c.hE c.hbe m _ hb w2
    obtain ⟨q, rfl, hq⟩ := typed_slice hDL hds
    rcases hq with rfl | ⟨es, sp, rfl, hq⟩
    · exact ⟨⟨[], b⟩, by simp [avOf, avFlat, hb1, encPg, encE_def], ⟨by simp, fun f hf => by cases hf⟩, hb2⟩
    · obtain ⟨g1, g2⟩ := weights_slice hDL hbd w1
      obtain ⟨l, e1, e2, e3⟩ := rows_of (enc := encD) (good := fitD) es (fun x hx => dc_of c hD q x (hq x hx) (g2 x hx))
      exact ⟨⟨l, b⟩, by simp [avOf, avFlat, e1, hb1, encPg, encE_def], ⟨(show l.length ≤ 140737488355328 by omega), e3⟩, hb2⟩
end
end Go.Pv

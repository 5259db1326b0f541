import Derived.Test.YtdifpfehijnmiaaGreatDoorPt
import Derived.Test.YtdifpfehijnmiaaGreatDoorPvPb
import Derived.Test.YtdifpfehijnmiaaGreatDoorPvY
import Derived.Test.YtdifpfehijnmiaaGreatDoorXSdM
import Derived.Test.YtdifpfehijnmiaaGreatDoorXDcK
import Derived.Test.YtdifpfehijnmiaaGreatDoorXExD
import Derived.Test.YtdifpfehijnmiaaGreatDoorXTyQ
import Derived.Test.YtdifpfehijnmiaaGreatDoorXTyD
import Derived.Test.YtdifpfehijnmiaaGreatDoorXDcB
section
/- The loops that change a clone, all together. -/
set_option linter.all false
set_option maxHeartbeats 1000000
set_option maxRecDepth 10000
namespace Go.Proofs.YtdifpfehijnmiaaGreatDoor
open Go Go.Pv
variable (g : Nat → Option (List AV)) (rnd : Bool)

open Go.RowKit
theorem dB0_eq : dB 0 = .block 0 (.loop (.seq (.seq (dR 6) (.cond (.tmp 29) .skip (.exit 0))) (.seq (.block 1 (.seq (dR 8) (.seq (.seq (dR 9) (dB 2)) (.seq (.seq (dR 13) (dB 4)) (.seq (.seq (dR 17) (dB 6)) (.seq (.seq (dR 21) (dB 8)) (.seq (.seq (dR 25) (dB 10)) (.seq (.seq (dR 29) (dB 12)) (dR 33))))))))) (dR 7)))) := by kernel_rfl
theorem dcl_loop (p : Pg) {lim : Lim} {b3 : Nat} {w0 : World} {df : List Deferred} {x1 x4 : Value} (hn : NodeC lim w0.heap b3 0 (encPR tyM 1 p)) (hB : wtPg p ≤ 100000) (a : Act) (hf : Fr df x1 x4 b3 0 a) : (dB 0).wp Tryz.prog (fun e a2 w2 => e = .normal ∧ (∃ i, Fr df x1 x4 b3 i a2) ∧ Wr lim b3 w0 w2) a w0 := by
  have hwd : wtDs p.decls + wtE p.main ≤ 100000 := hB
  have hln := wtDs_len p.decls
  obtain ⟨pD, cD, hnD, hrD⟩ := NodeC.slOf (j := 0) hn rfl
  rw [List.length_map] at hnD hrD
  rw [dB0_eq]
  refine wp_block (wp_loop (fun a w => ∃ i, i ≤ p.decls.length ∧ Fr df x1 x4 b3 i a ∧ Wr lim b3 w0 w) (fun a _ => p.decls.length - (intOf (a.tmps.getD 5 undef)).toNat) ⟨0, Nat.zero_le _, hf, ⟨Altd.refl _ _ _ _ _, rfl, rfl, rfl, Nat.le_refl _⟩⟩ ?_)
  clear hf a
  rintro a w ⟨i, hi, hf, hw⟩
  have hc := NodeC.slAt (off := 0) (j := 0) hw.al hnD
  rw [Nat.add_zero] at hc
  refine wp_seq ?_
  refine seqN (dcl_R6 a w hf hc) ?_
  rintro a1 w1 ⟨rfl, hf1, h29⟩
  refine wp_cond_split (t := decide (i < p.decls.length)) h29 (fun ht => ?_) (fun ht => ?_)
  · have hlt : i < p.decls.length := of_decide_eq_true ht
    obtain ⟨bD, cap, he, h3, h4, hreg, hkid⟩ := hrD.kid (i := i) (r := encDR tyM 1 p.decls[i]) (fun x hx => by obtain ⟨y, _, rfl⟩ := List.mem_map.1 hx; exact encDR_len _ _ y) (by rw [List.getElem?_map, List.getElem?_eq_getElem hlt]; rfl)
    rw [List.length_map] at he h3
    injection he with he1 _ he2
    subst he1; subst he2
    have hwm := wtDs_mem (List.getElem_mem hlt)
    generalize p.decls[i] = d at hkid hwm
    have hw2 : d.name.length + 1 + wtFs d.fms + wtFs d.flds + wtGs d.sigs + d.recv.length + wtSs d.vars + wtG d.sig + wtE d.body ≤ wtDs p.decls := hwm
    have hw3 : wtG d.sig = d.sig.name.length + 1 + wtFs d.sig.fms + wtFs d.sig.pms + wt d.sig.res := rfl
    have hl1 := wtFs_len d.fms
    have hl2 := wtFs_len d.flds
    have hl3 := wtGs_len d.sigs
    have hl4 := wtSs_len d.vars
    have hl5 := wtFs_len d.sig.pms
    have hl6 : d.body.kids.length ≤ wtE d.body := by cases d.body with | mk q1 q2 q3 q4 q5 q6 => have := wtEs_len q5; rw [wtE_mk]; simp only [Exp.kids]; omega
    obtain ⟨i0, e0⟩ := NodeC.intG (j := 0) hw.al hkid rfl
    obtain ⟨s1, e1⟩ := NodeC.strG (j := 1) hw.al hkid rfl
    obtain ⟨p2, n2, c2, e2, r2, l2⟩ := NodeC.slG (j := 2) hw.al hkid rfl
    obtain ⟨p3, n3, c3, e3, r3, l3⟩ := NodeC.slG (j := 3) hw.al hkid rfl
    obtain ⟨p4, n4, c4, e4, r4, l4⟩ := NodeC.slG (j := 4) hw.al hkid rfl
    obtain ⟨s5, e5⟩ := NodeC.strG (j := 5) hw.al hkid rfl
    obtain ⟨p6, n6, c6, e6, r6, l6⟩ := NodeC.slG (j := 6) hw.al hkid rfl
    obtain ⟨s7, e7⟩ := NodeC.strG (j := 7) hw.al hkid rfl
    obtain ⟨p8, n8, c8, e8, r8, l8⟩ := NodeC.slG (j := 8) hw.al hkid rfl
    obtain ⟨p9, n9, c9, e9, r9, l9⟩ := NodeC.slG (j := 9) hw.al hkid rfl
    obtain ⟨s10, e10⟩ := NodeC.strG (j := 10) hw.al hkid rfl
    obtain ⟨p11, n11, c11, e11, r11, l11⟩ := NodeC.slG (j := 11) hw.al hkid rfl
    obtain ⟨i12, e12⟩ := NodeC.intG (j := 12) hw.al hkid rfl
    obtain ⟨i13, e13⟩ := NodeC.intG (j := 13) hw.al hkid rfl
    obtain ⟨i14, e14⟩ := NodeC.intG (j := 14) hw.al hkid rfl
    obtain ⟨s15, e15⟩ := NodeC.strG (j := 15) hw.al hkid rfl
    obtain ⟨s16, e16⟩ := NodeC.strG (j := 16) hw.al hkid rfl
    obtain ⟨p17, n17, c17, e17, r17, l17⟩ := NodeC.slG (j := 17) hw.al hkid rfl
    obtain ⟨i18, e18⟩ := NodeC.intG (j := 18) hw.al hkid rfl
    obtain ⟨p19, n19, c19, e19, r19, l19⟩ := NodeC.slG (j := 19) hw.al hkid rfl
    obtain ⟨p20, n20, c20, e20, r20, l20⟩ := NodeC.slG (j := 20) hw.al hkid rfl
    obtain ⟨i21, e21⟩ := NodeC.intG (j := 21) hw.al hkid rfl
    obtain ⟨i22, e22⟩ := NodeC.intG (j := 22) hw.al hkid rfl
    have hE : ∀ (j : Nat) v, ([.int .i64 i0, .string s1, .slice p2 n2 c2, .slice p3 n3 c3, .slice p4 n4 c4, .string s5, .slice p6 n6 c6, .string s7, .slice p8 n8 c8, .slice p9 n9 c9, .string s10, .slice p11 n11 c11, .int .i64 i12, .int .i64 i13, .int .i64 i14, .string s15, .string s16, .slice p17 n17 c17, .int .i64 i18, .slice p19 n19 c19, .slice p20 n20 c20, .int .i64 i21, .int .i64 i22] : List Value)[j]? = some v → w1.cell? ⟨bD, i * 23 + j, none⟩ = some v := by
      intro j v hj
      match j, hj with
      | 0, hj => (injection hj with hj; subst hj; exact e0)
      | 1, hj => (injection hj with hj; subst hj; exact e1)
      | 2, hj => (injection hj with hj; subst hj; exact e2)
      | 3, hj => (injection hj with hj; subst hj; exact e3)
      | 4, hj => (injection hj with hj; subst hj; exact e4)
      | 5, hj => (injection hj with hj; subst hj; exact e5)
      | 6, hj => (injection hj with hj; subst hj; exact e6)
      | 7, hj => (injection hj with hj; subst hj; exact e7)
      | 8, hj => (injection hj with hj; subst hj; exact e8)
      | 9, hj => (injection hj with hj; subst hj; exact e9)
      | 10, hj => (injection hj with hj; subst hj; exact e10)
      | 11, hj => (injection hj with hj; subst hj; exact e11)
      | 12, hj => (injection hj with hj; subst hj; exact e12)
      | 13, hj => (injection hj with hj; subst hj; exact e13)
      | 14, hj => (injection hj with hj; subst hj; exact e14)
      | 15, hj => (injection hj with hj; subst hj; exact e15)
      | 16, hj => (injection hj with hj; subst hj; exact e16)
      | 17, hj => (injection hj with hj; subst hj; exact e17)
      | 18, hj => (injection hj with hj; subst hj; exact e18)
      | 19, hj => (injection hj with hj; subst hj; exact e19)
      | 20, hj => (injection hj with hj; subst hj; exact e20)
      | 21, hj => (injection hj with hj; subst hj; exact e21)
      | 22, hj => (injection hj with hj; subst hj; exact e22)
      | k + 23, hj => simp at hj
    have h1c : ∀ v ∈ ([.int .i64 i0, .string s1, .slice p2 n2 c2, .slice p3 n3 c3, .slice p4 n4 c4, .string s5, .slice p6 n6 c6, .string s7, .slice p8 n8 c8, .slice p9 n9 c9, .string s10, .slice p11 n11 c11, .int .i64 i12, .int .i64 i13, .int .i64 i14, .string s15, .string s16, .slice p17 n17 c17, .int .i64 i18, .slice p19 n19 c19, .slice p20 n20 c20, .int .i64 i21, .int .i64 i22] : List Value), v.oneCell' = true := by
      intro v hv
      simp only [List.mem_cons, List.not_mem_nil, or_false] at hv
      rcases hv with rfl | rfl | rfl | rfl | rfl | rfl | rfl | rfl | rfl | rfl | rfl | rfl | rfl | rfl | rfl | rfl | rfl | rfl | rfl | rfl | rfl | rfl | rfl <;> rfl
    have hfin : Code.wp Tryz.prog (.seq (dR 8) (.seq (.seq (dR 9) (dB 2)) (.seq (.seq (dR 13) (dB 4)) (.seq (.seq (dR 17) (dB 6)) (.seq (.seq (dR 21) (dB 8)) (.seq (.seq (dR 25) (dB 10)) (.seq (.seq (dR 29) (dB 12)) (dR 33)))))))) (fun e a2 w2 => e = .normal ∧ Fr df x1 x4 b3 i a2 ∧ Wr lim b3 w0 w2) a1 w1 := ?_
    · refine wp_skip ?_
      refine seqN (R := fun a2 w2 => Fr df x1 x4 b3 i a2 ∧ Wr lim b3 w0 w2) (wp_block (Code.wp_mono (fun e a2 w2 hh => by obtain ⟨rfl, hr⟩ := hh; exact ⟨rfl, hr⟩) hfin)) ?_
      rintro a2 w2 ⟨hf2, hw9⟩
      refine Code.wp_mono (fun e a4 w4 hh => ?_) (dcl_R7 (by omega) a2 w2 hf2)
      obtain ⟨rfl, rfl, hf4⟩ := hh
      refine ⟨⟨i + 1, by omega, hf4, hw9⟩, ?_⟩
      rw [hf4.h5, hf.h5]
      simp only [intOf]
      omega
    refine seqN (dcl_R8 rfl h1c a1 w1 hf1 hc hlt h3 h4 hE) ?_
    rintro a2 w2 ⟨rfl, hf2, hp2⟩
    have hw5 : Wr lim b3 w0 (w1.alloc (.cells ([.int .i64 i0, .string s1, .slice p2 n2 c2, .slice p3 n3 c3, .slice p4 n4 c4, .string s5, .slice p6 n6 c6, .string s7, .slice p8 n8 c8, .slice p9 n9 c9, .string s10, .slice p11 n11 c11, .int .i64 i12, .int .i64 i13, .int .i64 i14, .string s15, .string s16, .slice p17 n17 c17, .int .i64 i18, .slice p19 n19 c19, .slice p20 n20 c20, .int .i64 i21, .int .i64 i22] : List Value).toArray 35)) := ⟨hw.al.alloc _, hw.fr.1, hw.fr.2.1, hw.fr.2.2.1, by simp only [World.alloc, Array.size_push]; have := hw.fr.2.2.2; omega⟩
    have hb5 : Bx w0 w1.heap.size (.slice p2 n2 c2) (.slice p3 n3 c3) (.slice p4 n4 c4) (.slice p6 n6 c6) (.slice p9 n9 c9) (.slice p20 n20 c20) (w1.alloc (.cells ([.int .i64 i0, .string s1, .slice p2 n2 c2, .slice p3 n3 c3, .slice p4 n4 c4, .string s5, .slice p6 n6 c6, .string s7, .slice p8 n8 c8, .slice p9 n9 c9, .string s10, .slice p11 n11 c11, .int .i64 i12, .int .i64 i13, .int .i64 i14, .string s15, .string s16, .slice p17 n17 c17, .int .i64 i18, .slice p19 n19 c19, .slice p20 n20 c20, .int .i64 i21, .int .i64 i22] : List Value).toArray 35)) := ⟨hw.fr.2.2.2, (World.cell?_alloc_new _ _ _ 2).trans rfl, (World.cell?_alloc_new _ _ _ 3).trans rfl, (World.cell?_alloc_new _ _ _ 4).trans rfl, (World.cell?_alloc_new _ _ _ 6).trans rfl, (World.cell?_alloc_new _ _ _ 9).trans rfl, (World.cell?_alloc_new _ _ _ 20).trans rfl⟩
    clear e0 e1 e2 e3 e4 e5 e6 e7 e8 e9 e10 e11 e12 e13 e14 e15 e16 e17 e18 e19 e20 e21 e22 hE h1c
    generalize w1.heap.size = bd at hp2 hb5
    generalize w1.alloc (.cells ([.int .i64 i0, .string s1, .slice p2 n2 c2, .slice p3 n3 c3, .slice p4 n4 c4, .string s5, .slice p6 n6 c6, .string s7, .slice p8 n8 c8, .slice p9 n9 c9, .string s10, .slice p11 n11 c11, .int .i64 i12, .int .i64 i13, .int .i64 i14, .string s15, .string s16, .slice p17 n17 c17, .int .i64 i18, .slice p19 n19 c19, .slice p20 n20 c20, .int .i64 i21, .int .i64 i22] : List Value).toArray 35) = w5 at hw5 hb5 ⊢
    refine seqN (R := fun a2 w2 => Fr df x1 x4 b3 i a2 ∧ Wr lim b3 w0 w2 ∧ a2.tmps.getD 6 undef = .pointer (some ⟨bd, 0, none⟩) ∧ Bx w0 bd (.slice p2 n2 c2) (.slice p3 n3 c3) (.slice p4 n4 c4) (.slice p6 n6 c6) (.slice p9 n9 c9) (.slice p20 n20 c20) w2) (seqN (dcl_R9 a2 w5 hf2 hp2) ?_) ?_
    · rintro b0 v0 ⟨rfl, hf100, hp100, hz0⟩
      exact dcl_B2 rfl r2 l2 (by rw [l2, List.length_map]; omega) (fun x hx => by obtain ⟨y, _, rfl⟩ := List.mem_map.1 hx; exact rfl) (fun x hx => by obtain ⟨y, _, rfl⟩ := List.mem_map.1 hx; exact ⟨_, rfl⟩) b0 v0 hf100 hw5 hp100 hb5 hz0
    rintro a200 w200 ⟨hf200, hw200, hp200, hb200⟩
    refine seqN (R := fun a2 w2 => Fr df x1 x4 b3 i a2 ∧ Wr lim b3 w0 w2 ∧ a2.tmps.getD 6 undef = .pointer (some ⟨bd, 0, none⟩) ∧ Bx w0 bd (.slice p2 n2 c2) (.slice p3 n3 c3) (.slice p4 n4 c4) (.slice p6 n6 c6) (.slice p9 n9 c9) (.slice p20 n20 c20) w2) (seqN (dcl_R13 a200 w200 hf200 hp200) ?_) ?_
    · rintro b1 v1 ⟨rfl, hf101, hp101, hz1⟩
      exact dcl_B4 rfl r3 l3 (by rw [l3, List.length_map]; omega) (fun x hx => by obtain ⟨y, _, rfl⟩ := List.mem_map.1 hx; exact rfl) (fun x hx => by obtain ⟨y, _, rfl⟩ := List.mem_map.1 hx; exact ⟨_, rfl⟩) b1 v1 hf101 hw200 hp101 hb200 hz1
    rintro a201 w201 ⟨hf201, hw201, hp201, hb201⟩
    refine seqN (R := fun a2 w2 => Fr df x1 x4 b3 i a2 ∧ Wr lim b3 w0 w2 ∧ a2.tmps.getD 6 undef = .pointer (some ⟨bd, 0, none⟩) ∧ Bx w0 bd (.slice p2 n2 c2) (.slice p3 n3 c3) (.slice p4 n4 c4) (.slice p6 n6 c6) (.slice p9 n9 c9) (.slice p20 n20 c20) w2) (seqN (dcl_R17 a201 w201 hf201 hp201) ?_) ?_
    · rintro b2 v2 ⟨rfl, hf102, hp102, hz2⟩
      exact dcl_B6 rfl r4 l4 (by rw [l4, List.length_map]; omega) (fun x hx => by obtain ⟨y, _, rfl⟩ := List.mem_map.1 hx; exact rfl) (fun x hx => by obtain ⟨y, _, rfl⟩ := List.mem_map.1 hx; exact ⟨_, rfl⟩) b2 v2 hf102 hw201 hp102 hb201 hz2
    rintro a202 w202 ⟨hf202, hw202, hp202, hb202⟩
    refine seqN (R := fun a2 w2 => Fr df x1 x4 b3 i a2 ∧ Wr lim b3 w0 w2 ∧ a2.tmps.getD 6 undef = .pointer (some ⟨bd, 0, none⟩) ∧ Bx w0 bd (.slice p2 n2 c2) (.slice p3 n3 c3) (.slice p4 n4 c4) (.slice p6 n6 c6) (.slice p9 n9 c9) (.slice p20 n20 c20) w2) (seqN (dcl_R21 a202 w202 hf202 hp202) ?_) ?_
    · rintro b3 v3 ⟨rfl, hf103, hp103, hz3⟩
      exact dcl_B8 rfl r6 l6 (by rw [l6, List.length_map]; omega) (fun x hx => by obtain ⟨y, _, rfl⟩ := List.mem_map.1 hx; exact rfl) (fun x hx => by obtain ⟨y, _, rfl⟩ := List.mem_map.1 hx; exact ⟨_, rfl⟩) b3 v3 hf103 hw202 hp103 hb202 hz3
    rintro a203 w203 ⟨hf203, hw203, hp203, hb203⟩
    refine seqN (R := fun a2 w2 => Fr df x1 x4 b3 i a2 ∧ Wr lim b3 w0 w2 ∧ a2.tmps.getD 6 undef = .pointer (some ⟨bd, 0, none⟩) ∧ Bx w0 bd (.slice p2 n2 c2) (.slice p3 n3 c3) (.slice p4 n4 c4) (.slice p6 n6 c6) (.slice p9 n9 c9) (.slice p20 n20 c20) w2) (seqN (dcl_R25 a203 w203 hf203 hp203) ?_) ?_
    · rintro b4 v4 ⟨rfl, hf104, hp104, hz4⟩
      exact dcl_B10 rfl r9 l9 (by rw [l9, List.length_map]; omega) (fun x hx => by obtain ⟨y, _, rfl⟩ := List.mem_map.1 hx; exact rfl) (fun x hx => by obtain ⟨y, _, rfl⟩ := List.mem_map.1 hx; exact ⟨_, rfl⟩) b4 v4 hf104 hw203 hp104 hb203 hz4
    rintro a204 w204 ⟨hf204, hw204, hp204, hb204⟩
    refine seqN (R := fun a2 w2 => Fr df x1 x4 b3 i a2 ∧ Wr lim b3 w0 w2 ∧ a2.tmps.getD 6 undef = .pointer (some ⟨bd, 0, none⟩) ∧ Bx w0 bd (.slice p2 n2 c2) (.slice p3 n3 c3) (.slice p4 n4 c4) (.slice p6 n6 c6) (.slice p9 n9 c9) (.slice p20 n20 c20) w2) (seqN (dcl_R29 a204 w204 hf204 hp204) ?_) ?_
    · rintro b5 v5 ⟨rfl, hf105, hp105, hz5⟩
      exact dcl_B12 rfl r20 l20 (by rw [l20, List.length_map]; omega) (fun x hx => by obtain ⟨y, _, rfl⟩ := List.mem_map.1 hx; exact (encER_len _ _ _ y)) (fun x hx => by obtain ⟨y, _, rfl⟩ := List.mem_map.1 hx; exact ⟨_, encER_1 _ _ _ y⟩) b5 v5 hf105 hw204 hp105 hb204 hz5
    rintro a205 w205 ⟨hf205, hw205, hp205, hb205⟩
    have hc9 := NodeC.slAt (off := 0) (j := 0) hw205.al hnD
    rw [Nat.add_zero] at hc9
    obtain ⟨hs1, s9, hs2, -⟩ := NodeC.str (j := 1) hw205.al hkid rfl
    have hfz := NodeC.thaw hw205.al hkid (i * 23 + 1)
    refine Code.wp_mono (fun e a4 w4 hh => ?_) (dcl_R33 a205 w205 hf205 hc9 hlt h3 h4 hs2 hfz)
    obtain ⟨rfl, rfl, hf4⟩ := hh
    exact ⟨rfl, hf4, hw205.set hreg hs1 _ (by decide)⟩
  · refine wp_exit ?_
    simp only [Exit.then, Exit.inBlock, if_true]
    exact ⟨trivial, ⟨i, hf1⟩, hw⟩

end Go.Proofs.YtdifpfehijnmiaaGreatDoor
end

section
/- Contracts: the types of a program; its depth. -/
set_option linter.all false
set_option maxHeartbeats 1000000
set_option maxRecDepth 10000
namespace Go.Proofs.YtdifpfehijnmiaaGreatDoor
open Go Go.Pv
variable (g : Nat → Option (List AV)) (rnd : Bool)

theorem c_decl_Types_z (p : Pg) (hw : wtPg p ≤ 400000000) : Valid Tryz.prog (G0 g false) 16 [.agg (encPg p)] (.slice ((tysP p).map encTy)) := by
 have hw2 : wtDs p.decls + wtE p.main ≤ 400000000 := hw
 have hlD := wtDs_len p.decls
 have htp := tysP_len p
 refine valid_of [(3, 28)] Tryz.func16 rfl (by kernel_rfl) ?_
 refine sr fun Z z => ?_
 simp [row_map, encPg, Tryz.f16]
 refine z _ ?_
 clear z Z
 refine sr fun Z z => ?_
 simp [row_map, encPg]
 refine z _ ?_
 clear z Z
 refine AT_seq_k fun K1 hK1 => ?_
 refine sr fun Z z => ?_
 simp [row_map, encPg]
 refine z _ ?_
 clear z Z
 refine AT_block ?_
 refine AT_loop_q [1,3,9,10,11] [1] (fun j s => ∃ k, k ≤ p.decls.length ∧ j = p.decls.length - k ∧ s = { n := 57, tm := [(1, .lp 1 0), (3, .v (.slice ((flT (declL p) k).map encTy)) (some (3, 28))), (9, .v (.slice (p.decls.map encD)) none), (10, .v (.int .i64 p.decls.length) none), (11, .v (.int .i64 k) none)], bx := [(1, encPg p)], tb := [], sh := [], hint := [(3, 28)] }) (p.decls.length) (by first | rfl | simp) ?_ ?_
 exact ⟨0, by simp [flT_nil, encPg]⟩
 rintro j s ⟨k, hk, rfl, rfl⟩ K2 hK2
 refine sr fun Z z => ?_
 simp [row_map, encPg]
 refine z _ ?_
 clear z Z
 refine AT_seq_k fun K3 hK3 => ?_
 refine AT_cond (g := none) rfl (fun hb12 => ?_) (fun hb12 => ?_)
 simp [row_map, encPg] at hb12
 refine AT_skip ?_
 refine hK3 _ ?_
 refine AT_seq_k fun K4 hK4 => ?_
 refine AT_block ?_
 refine sr fun Z z => ?_
 have hk9 : k < p.decls.length := by omega
 have hle := decl_le p k hk9
 have hu9 := decl_succ p k hk9
 have hwd := wtDs_mem (l := p.decls) (f := p.decls[k]) (by simp)
 have hwd2 : wtD p.decls[k] = p.decls[k].name.length + 1 + wtFs p.decls[k].fms + wtFs p.decls[k].flds + wtGs p.decls[k].sigs + p.decls[k].recv.length + wtSs p.decls[k].vars + wtG p.decls[k].sig + wtE p.decls[k].body := rfl
 have hf1 := wtFs_len p.decls[k].fms
 have hgl := wtGs_len p.decls[k].sigs
 have hf2 := wtFs_len p.decls[k].flds
 have hg1 := flT_len (declL p) k
 have hh1 := headD_len p.decls[k]
 simp [row_map, encPg, encD, hb12]
 refine z _ ?_
 clear z Z
 refine AT_seq_draw Pt.mixed (by kernel_rfl) fun Z z => ?_
 simp [row_map, encPg, encD, hb12]
 refine RVdn_call (c_decl_formals g false p.decls[k].fms (by omega)) ?_
 simp [row_map, encPg, encD, hb12]
 refine RVdn_call (c_decl_params g false p.decls[k].flds (by omega)) ?_
 simp [row_map, encPg, encD, hb12]
 refine RVdn_call ((by have h := (c_slices_Concat_api_Type_api_Type g false [p.decls[k].fms.map Fm.ty, p.decls[k].flds.map Fm.ty] (by simp) (by simp; omega)).valid; simpa [encTL] using h)) ?_
 simp [row_map, encPg, encD, hb12]
 repeat refine sg ?_
 refine z _ ?_
 clear z Z
 refine AT_seq_k fun K5 hK5 => ?_
 refine sr fun Z z => ?_
 simp [row_map, encPg, encD, hb12]
 refine z _ ?_
 clear z Z
 refine AT_block ?_
 refine AT_loop_q [1,3,5,9,10,11,26,27,28] [1,5] (fun j s => ∃ m, m ≤ p.decls[k].sigs.length ∧ j = p.decls[k].sigs.length - m ∧ s = { n := 57, tm := [(1, .lp 1 0), (3, .v (.slice ((flT (declL p) k ++ headD p.decls[k] ++ flT (sigL p.decls[k]) m).map encTy)) (some (3, 28))), (5, .lp 5 0), (9, .v (.slice (p.decls.map encD)) none), (10, .v (.int .i64 p.decls.length) none), (11, .v (.int .i64 k) none), (26, .v (.slice (p.decls[k].sigs.map encG)) none), (27, .v (.int .i64 p.decls[k].sigs.length) none), (28, .v (.int .i64 m) none)], bx := [(1, encPg p), (5, encD p.decls[k])], tb := [], sh := [], hint := [(3, 28)] }) (p.decls[k].sigs.length) (by first | rfl | simp) ?_ ?_
 exact ⟨0, by simp [flT_nil, headD, encD, encPg]⟩
 rintro j s ⟨m, hm, rfl, rfl⟩ K6 hK6
 refine sr fun Z z => ?_
 simp [row_map, encPg, hb12]
 refine z _ ?_
 clear z Z
 refine AT_seq_k fun K7 hK7 => ?_
 refine AT_cond (g := none) rfl (fun hb29 => ?_) (fun hb29 => ?_)
 simp [row_map, encPg, hb12] at hb29
 refine AT_skip ?_
 refine hK7 _ ?_
 refine AT_seq_k fun K8 hK8 => ?_
 refine AT_block ?_
 refine sr fun Z z => ?_
 have hm9 : m < p.decls[k].sigs.length := by omega
 have hsl := sig_le p.decls[k] m hm9
 have hv9 := sig_succ p.decls[k] m hm9
 have hg2 := flT_len (sigL p.decls[k]) m
 have hws := wtGs_mem (l := p.decls[k].sigs) (f := p.decls[k].sigs[m]) (by simp)
 simp [row_map, encPg, encG, hb12, hb29]
 refine z _ ?_
 clear z Z
 refine AT_region_q fun Z z => ?_
 simp [row_map, encPg, encG, hb12, hb29]
 refine RVn_call (c_decl_sig g false p.decls[k].sigs[m] (by omega)) ?_
 simp [row_map, encPg, encG, hb12, hb29]
 repeat refine sg ?_
 refine z _ ?_
 clear z Z
 refine hK8 _ ?_
 refine AT_region_q fun Z z => ?_
 simp [row_map, encPg, hb12, hb29]
 repeat refine sg ?_
 refine z _ ?_
 clear z Z
 refine hK6 _ (by first | rfl | simp) (p.decls[k].sigs.length - (m+1)) (by omega) ?_
 refine ⟨m+1, by omega, by omega, ?_⟩
 simp [hv9, encD, encPg]
 simp [row_map, encPg, hb12] at hb29
 refine AT_exit ?_
 refine hK5 _ ?_
 cases h3 : (p.decls[k].kind == 3)
 have htail := tailD_no h3
 refine sr fun Z z => ?_
 have hm9 : m = p.decls[k].sigs.length := by omega
 subst hm9
 have hsa := sig_all p.decls[k]
 rw [hsa]
 simp [row_map, encPg, encD, hb12, hb29, h3]
 refine z _ ?_
 clear z Z
 refine cF (by simp [hb12, hb29, h3]) ?_
 refine AT_skip ?_
 refine hK4 _ ?_
 refine AT_region_q fun Z z => ?_
 simp [row_map, encPg, hb12, hb29, h3]
 repeat refine sg ?_
 refine z _ ?_
 clear z Z
 refine hK2 _ (by first | rfl | simp) (p.decls.length - (k+1)) (by omega) ?_
 refine ⟨k+1, by omega, by omega, ?_⟩
 simp [hu9, htail, encPg]
 have htail := tailD_yes (by simpa using h3)
 have htl : (tailD p.decls[k]).length = (tysG p.decls[k].sig).length + (tysE p.decls[k].body).length := by rw [htail, List.length_append]
 refine sr fun Z z => ?_
 have hm9 : m = p.decls[k].sigs.length := by omega
 subst hm9
 have hsa := sig_all p.decls[k]
 rw [hsa]
 simp [row_map, encPg, encD, hb12, hb29, h3]
 refine z _ ?_
 clear z Z
 refine cT (by simp [hb12, hb29, h3]) ?_
 refine AT_draw_q Pt.mixed (by kernel_rfl) fun Z z => ?_
 simp [row_map, encPg, encD, hb12, hb29, h3]
 refine RVdn_call ((by have h := c_decl_sig g false p.decls[k].sig (by omega); simp only [encG] at h; exact h)) ?_
 simp [row_map, encPg, encD, hb12, hb29, h3]
 refine RVdn_call ((by have h := c_decl_body g false p.decls[k].body (by omega); simp only [encE_def] at h; exact h)) ?_
 simp [row_map, encPg, encD, hb12, hb29, h3]
 refine RVdn_call ((by have h := (c_slices_Concat_api_Type_api_Type g false [tysG p.decls[k].sig, tysE p.decls[k].body] (by simp) (by simp; omega)).valid; simpa [encTL] using h)) ?_
 simp [row_map, encPg, encD, hb12, hb29, h3]
 repeat refine sg ?_
 refine z _ ?_
 clear z Z
 refine hK4 _ ?_
 refine AT_region_q fun Z z => ?_
 simp [row_map, encPg, hb12, hb29, h3]
 repeat refine sg ?_
 refine z _ ?_
 clear z Z
 refine hK2 _ (by first | rfl | simp) (p.decls.length - (k+1)) (by omega) ?_
 refine ⟨k+1, by omega, by omega, ?_⟩
 simp [hu9, htail, encPg]
 simp [row_map, encPg] at hb12
 refine AT_exit ?_
 refine hK1 _ ?_
 refine sr fun Z z => ?_
 have hk9 : k = p.decls.length := by omega
 subst hk9
 have hda := decl_all p
 rw [hda]
 simp [row_map, encPg, hb12]
 refine RVn_call ((by have h := c_decl_body g false p.main (by omega); simp only [encE_def] at h; exact h)) ?_
 simp [row_map, encPg, hb12]
 repeat refine sg ?_
 refine RVn_call ((by have h := c_decl_copies_api_Type g false 61 (tysP p) (by rw [tysP_parts, List.length_append]; omega) (fun x hx => c_types_Clone g false x (by have h1 := wts_mem hx; have h2 := wts_tysP p; omega)); rw [tysP_parts, List.map_append] at h; exact h)) ?_
 simp [row_map, encPg, hb12]
 refine z _ ?_
 clear z Z
 refine AT_ret ?_
 simp [row_map, encPg, Tryz.f16]
 rw [tysP_parts]; simp

theorem c_decl_Types (p : Pg) (hw : wtPg p ≤ 400000000) : Valid Tryz.prog (G0 g rnd) 16 [.agg (encPg p)] (.slice ((tysP p).map encTy)) := (c_decl_Types_z g p hw).gl rfl

end Go.Proofs.YtdifpfehijnmiaaGreatDoor
end

section
/- Contracts: the reference compares declarations. -/
set_option linter.all false
set_option maxHeartbeats 1000000
set_option maxRecDepth 10000
namespace Go.Proofs.YtdifpfehijnmiaaGreatDoor
open Go Go.Pv
variable (g : Nat → Option (List AV)) (rnd : Bool)

end Go.Proofs.YtdifpfehijnmiaaGreatDoor
end

/- Contracts. -/
import Derived.Test.YtngpggbigjeehaaDoorPt
import Derived.Test.YtngpggbigjeehaaDoorPvLa
import Derived.Test.YtngpggbigjeehaaDoorPvX
import Derived.Test.YtngpggbigjeehaaDoorXNaM
set_option linter.all false
set_option maxHeartbeats 1000000
set_option maxRecDepth 10000
namespace Go.Proofs.YtngpggbigjeehaaDoor
open Go Go.Pv
variable (g : Nat → Option (List AV)) (rnd : Bool)

theorem c_ref01x_Decimal : ∀ n : Nat, n ≤ 9223372036854775807 → Valid Tryd.prog (G0 g rnd) 26 [.int .i64 n] (.str (decD n)) := by
  intro n
  induction n using Nat.strongRecOn with
  | _ n ih =>
  intro hn
  have hw : ∀ d : Int, 0 ≤ d → d < 10 → IntKind.u8.wrap (48 + d) = 48 + d := fun d h1 h2 => by rw [IntKind.wrap_u8]; omega
  have hdiv : (n : Int).tdiv 10 = ((n / 10 : Nat) : Int) := rfl
  have hmod : (n : Int).tmod 10 = ((n % 10 : Nat) : Int) := rfl
  have hdl := decD_len 18 (n / 10) (pow19 (by omega))
  refine valid_of [] Tryd.func26 rfl (by kernel_rfl) ?_
  refine AT_seq_region fun K1 hK1 => ?_
  simp [hdiv, hmod, Tryd.f26]
  repeat (refine ⟨by first | omega | (simp at *; omega), ?_⟩)
  refine hK1 _ ?_
  clear hK1 K1
  refine AT_seq_k fun K2 hK2 => ?_
  refine AT_seq_region fun K3 hK3 => ?_
  simp [hdiv, hmod]
  repeat (refine ⟨by first | omega | (simp at *; omega), ?_⟩)
  refine hK3 _ ?_
  clear hK3 K3
  refine AT_cond (g := none) rfl (fun hb4 => ?_) (fun hb4 => ?_)
  ·
    try simp [hdiv, hmod] at hb4
    refine AT_seq_region fun K4 hK4 => ?_
    have hwn := hw n (by omega) (by omega)
    have htn : (48 + (n : Int)).toNat = 48 + n := by omega
    simp [hdiv, hmod, hwn, htn, hb4]
    repeat (refine ⟨by first | omega | (simp at *; omega), ?_⟩)
    refine hK4 _ ?_
    clear hK4 K4
    refine AT_ret ?_
    simp [hdiv, hmod, Tryd.f26]
    first
    | exact (decD_small2 (by omega)).symm
    | exact (decD_big2 (by omega)).symm
  ·
    try simp [hdiv, hmod] at hb4
    refine AT_skip ?_
    try simp only [thenA, inBlockA, ite_true, ite_false, reduceIte, Nat.reduceEqDiff]
    refine hK2 _ ?_
    refine AT_seq_draw Pt.mixed (by kernel_rfl) fun K5 hK5 => ?_
    have hwn := hw ((n % 10 : Nat) : Int) (by omega) (by omega)
    simp only [Int.natCast_emod, Int.cast_ofNat_Int] at hwn
    have htn : (48 + (n : Int) % 10).toNat = 48 + n % 10 := by omega
    simp [hdiv, hmod, hwn, htn, hb4]
    repeat (refine ⟨by first | omega | (simp at *; omega), ?_⟩)
    refine RVdn_call (ih (n / 10) (by omega) (by omega)) ?_
    simp [hdiv, hmod, hwn, htn, hb4]
    repeat (refine ⟨by first | omega | (simp at *; omega), ?_⟩)
    refine hK5 _ ?_
    clear hK5 K5
    refine AT_ret ?_
    simp [hdiv, hmod, Tryd.f26]
    first
    | exact (decD_small2 (by omega)).symm
    | exact (decD_big2 (by omega)).symm

theorem c_ref01x_Local (n : Int) (h1 : n ≤ 9223372036854775807) : Valid Tryd.prog (G0 g rnd) 16 [.int .i64 n] (.str (locS n)) := by
  have hlen : n < 0 ∨ (decD n.toNat).length ≤ 19 := by
    rcases Int.lt_or_le n 0 with h | h
    · exact .inl h
    · exact .inr (decD_len 18 _ (pow19 (by omega)))
  refine valid_of [] Tryd.func16 rfl (by kernel_rfl) ?_
  refine AT_seq_region fun K1 hK1 => ?_
  simp [Tryd.f16]
  repeat (refine ⟨by first | omega | (simp at *; omega), ?_⟩)
  refine hK1 _ ?_
  clear hK1 K1
  refine AT_seq_k fun K2 hK2 => ?_
  refine AT_seq_region fun K3 hK3 => ?_
  simp
  repeat (refine ⟨by first | omega | (simp at *; omega), ?_⟩)
  refine hK3 _ ?_
  clear hK3 K3
  refine AT_cond (g := none) rfl (fun hb4 => ?_) (fun hb4 => ?_)
  ·
    try simp at hb4
    refine AT_seq_region fun K4 hK4 => ?_
    simp [hb4]
    repeat (refine ⟨by first | omega | (simp at *; omega), ?_⟩)
    refine hK4 _ ?_
    clear hK4 K4
    refine AT_ret ?_
    simp [Tryd.f16]
    first
    | (simp [locS, hb4]; done)
    | (rw [locS, if_neg (by omega)]; done)
    | (rw [locS, if_neg (by omega)]; rfl)
  ·
    try simp at hb4
    refine AT_skip ?_
    try simp only [thenA, inBlockA, ite_true, ite_false, reduceIte, Nat.reduceEqDiff]
    refine hK2 _ ?_
    refine AT_seq_region fun K5 hK5 => ?_
    simp [hb4]
    repeat (refine ⟨by first | omega | (simp at *; omega), ?_⟩)
    refine RVn_call ((by have h := c_ref01x_Decimal g rnd n.toNat (by omega); rw [Int.toNat_of_nonneg (by omega)] at h; exact h)) ?_
    simp [hb4]
    repeat (refine ⟨by first | omega | (simp at *; omega), ?_⟩)
    refine hK5 _ ?_
    clear hK5 K5
    refine AT_ret ?_
    simp [Tryd.f16]
    first
    | (simp [locS, hb4]; done)
    | (rw [locS, if_neg (by omega)]; done)
    | (rw [locS, if_neg (by omega)]; rfl)

theorem c_ref01x_Index (s : Str) (hs : s.length ≤ 1000000) : Valid Tryd.prog (G0 g rnd) 17 [.str s] (.int .i64 (locR s)) := by

  refine valid_of [] Tryd.func17 rfl (by kernel_rfl) ?_
  refine AT_seq_region fun K1 hK1 => ?_
  simp [Tryd.f17]
  repeat (refine ⟨by first | omega | exact List.ne_nil_of_length_pos hp0 | (simp at *; omega), ?_⟩)
  refine hK1 _ ?_
  clear hK1 K1
  refine AT_seq_region fun K2 hK2 => ?_
  simp
  repeat (refine ⟨by first | omega | exact List.ne_nil_of_length_pos hp0 | (simp at *; omega), ?_⟩)
  refine hK2 _ ?_
  clear hK2 K2
  refine AT_seq_k fun K3 hK3 => ?_
  rcases Nat.lt_or_ge s.length 2 with hl | hl
  ·
    have h1 : (s.length : Int) < 2 := by omega
    have hR : locR s = -1 := locR_short hl
    refine AT_seq_region fun K4 hK4 => ?_
    simp [h1]
    repeat (refine ⟨by first | omega | exact List.ne_nil_of_length_pos hp0 | (simp at *; omega), ?_⟩)
    refine hK4 _ ?_
    clear hK4 K4
    refine AT_cond (b := true) (g := none) (by simp [h1]) (fun hb => ?_) (fun hb => ?_)
    ·
      clear hb
      refine AT_seq_region fun K5 hK5 => ?_
      simp [h1]
      repeat (refine ⟨by first | omega | exact List.ne_nil_of_length_pos hp0 | (simp at *; omega), ?_⟩)
      refine hK5 _ ?_
      clear hK5 K5
      refine AT_ret ?_
      simp [Tryd.f17]
      exact hR.symm
    ·
      cases hb
  ·
    have h1 : ¬ (s.length : Int) < 2 := by omega
    have hp0 : 0 < s.length := by omega
    rcases Nat.lt_or_ge 11 s.length with hl2 | hl2
    ·
      have h2 : (11 : Int) < s.length := by omega
      have hR : locR s = -1 := locR_long hl2
      refine AT_seq_region fun K6 hK6 => ?_
      simp [h1, h2]
      repeat (refine ⟨by first | omega | exact List.ne_nil_of_length_pos hp0 | (simp at *; omega), ?_⟩)
      refine hK6 _ ?_
      clear hK6 K6
      refine AT_cond (b := true) (g := none) (by simp [h1, h2]) (fun hb => ?_) (fun hb => ?_)
      ·
        clear hb
        refine AT_seq_region fun K7 hK7 => ?_
        simp [h1, h2]
        repeat (refine ⟨by first | omega | exact List.ne_nil_of_length_pos hp0 | (simp at *; omega), ?_⟩)
        refine hK7 _ ?_
        clear hK7 K7
        refine AT_ret ?_
        simp [Tryd.f17]
        exact hR.symm
      ·
        cases hb
    ·
      have h2 : ¬ (11 : Int) < s.length := by omega
      by_cases hc : s[0] = 36
      ·
        have h3 : ((s[0].toNat : Int) != 36) = false := by rw [hc]; rfl
        have hsr : s = 36 :: s.tail := by cases s with
          | nil => simp at hp0
          | cons c r => simp at hc; simp [hc]
        have hrl : s.tail.length = s.length - 1 := by simp
        refine AT_seq_region fun K8 hK8 => ?_
        simp [h1, h2, hp0, h3]
        repeat (refine ⟨by first | omega | exact List.ne_nil_of_length_pos hp0 | (simp at *; omega), ?_⟩)
        refine hK8 _ ?_
        clear hK8 K8
        refine AT_cond (b := false) (g := none) (by simp [h1, h2, hp0, h3]) (fun hb => ?_) (fun hb => ?_)
        ·
          cases hb
        ·
          clear hb
          refine AT_skip ?_
          try simp only [thenA, inBlockA, ite_true, ite_false, reduceIte, Nat.reduceEqDiff]
          refine hK3 _ ?_
          refine AT_seq_k fun K9 hK9 => ?_
          refine AT_seq_region fun K10 hK10 => ?_
          simp [h1, h2, hp0, h3]
          repeat (refine ⟨by first | omega | exact List.ne_nil_of_length_pos hp0 | (simp at *; omega), ?_⟩)
          refine hK10 _ ?_
          clear hK10 K10
          refine AT_block ?_
          refine AT_loop_q [0,3,4] [] (fun j st => ∃ k m, k ≤ s.tail.length ∧ s.tail.all digB = (s.tail.drop k).all digB ∧ valD 0 s.tail = valD m (s.tail.drop k) ∧ m < 10 ^ k ∧ j = s.tail.length - k ∧ st = { n := 46, tm := [(0, .v (.str s) none), (3, .v (.int .i64 (m : Nat)) none), (4, .v (.int .i64 (k + 1 : Nat)) none)], bx := [], tb := [], sh := [], hint := [] }) (s.tail.length) (by first | rfl | simp) ?_ ?_
          ·
            exact ⟨0, 0, by simp⟩
          ·
            rintro j st ⟨k, m, hk, hda2, hva, hm, rfl, rfl⟩ K11 hK11
            have hpw : (10 : Nat) ^ k ≤ 10 ^ 10 := Nat.pow_le_pow_right (by decide) (by omega)
            have h10 : (10 : Nat) ^ 10 = 10000000000 := by decide
            refine AT_seq_k fun K12 hK12 => ?_
            refine AT_seq_region fun K13 hK13 => ?_
            have hkk : k + 1 ≤ s.length := by omega
            simp [h1, h2, hp0, h3]
            repeat (refine ⟨by first | omega | exact List.ne_nil_of_length_pos hp0 | (simp at *; omega), ?_⟩)
            refine hK13 _ ?_
            clear hK13 K13
            refine AT_cond (g := none) rfl (fun hb21 => ?_) (fun hb21 => ?_)
            ·
              try simp [h1, h2, hp0, h3] at hb21
              refine AT_skip ?_
              try simp only [thenA, inBlockA, ite_true, ite_false, reduceIte, Nat.reduceEqDiff]
              refine hK12 _ ?_
              refine AT_seq_k fun K14 hK14 => ?_
              refine AT_block ?_
              refine AT_seq_k fun K15 hK15 => ?_
              have hk21 : k < s.tail.length := by omega
              have hk22 : k + 1 < s.length := by omega
              have hda := List.drop_eq_getElem_cons hk21
              obtain ⟨b, hb⟩ : ∃ b, s.tail[k] = b := ⟨_, rfl⟩
              have hget : s[k+1] = b := by rw [← hb]; simp
              rw [hb] at hda
              cases hdg : digB b
              ·
                have hcb : (clsI (b.toNat : Int) != 2) = true := by
                  refine bne_iff_ne.2 (fun h => ?_)
                  rw [(clsI_dig _).1 h] at hdg; cases hdg
                have hR : locR s = -1 := by rw [hsr]; exact locR_bad (by rw [hda2, hda, List.all_cons, hdg]; rfl)
                refine AT_seq_region fun K16 hK16 => ?_
                simp [h1, h2, hp0, h3, hb21, hk22, hget, hcb]
                repeat (refine ⟨by first | omega | exact List.ne_nil_of_length_pos hp0 | (simp at *; omega), ?_⟩)
                refine RVn_call (c_ref01x_Class g rnd _) ?_
                simp [h1, h2, hp0, h3, hb21, hk22, hget, hcb]
                repeat (refine ⟨by first | omega | exact List.ne_nil_of_length_pos hp0 | (simp at *; omega), ?_⟩)
                refine hK16 _ ?_
                clear hK16 K16
                refine AT_cond (b := true) (g := none) (by simp [h1, h2, hp0, h3, hb21, hk22, hget, hcb]) (fun hb => ?_) (fun hb => ?_)
                ·
                  clear hb
                  refine AT_seq_region fun K17 hK17 => ?_
                  simp [h1, h2, hp0, h3, hb21, hk22, hget, hcb]
                  repeat (refine ⟨by first | omega | exact List.ne_nil_of_length_pos hp0 | (simp at *; omega), ?_⟩)
                  refine hK17 _ ?_
                  clear hK17 K17
                  refine AT_ret ?_
                  simp [Tryd.f17]
                  exact hR.symm
                ·
                  cases hb
              ·
                have hcb : (clsI (b.toNat : Int) != 2) = false := by rw [(clsI_dig _).2 hdg]; rfl
                have hdr := hdg
                simp only [digB, Bool.and_eq_true, decide_eq_true_eq] at hdr
                obtain ⟨hdr1, hdr2⟩ := hdr
                have hwr : IntKind.i64.wrap ((b.toNat : Int) - 48) = (b.toNat : Int) - 48 := by rw [IntKind.wrap_i64]; omega
                have hst := stepD_int m hdr1 hdr2
                have hstl := step_lt (k := k) hdr1 hdr2 hm
                refine AT_seq_region fun K18 hK18 => ?_
                simp [h1, h2, hp0, h3, hb21, hk22, hget, hcb, hwr, hst]
                repeat (refine ⟨by first | omega | exact List.ne_nil_of_length_pos hp0 | (simp at *; omega), ?_⟩)
                refine RVn_call (c_ref01x_Class g rnd _) ?_
                simp [h1, h2, hp0, h3, hb21, hk22, hget, hcb, hwr, hst]
                repeat (refine ⟨by first | omega | exact List.ne_nil_of_length_pos hp0 | (simp at *; omega), ?_⟩)
                refine hK18 _ ?_
                clear hK18 K18
                refine AT_cond (b := false) (g := none) (by simp [h1, h2, hp0, h3, hb21, hk22, hget, hcb, hwr, hst]) (fun hb => ?_) (fun hb => ?_)
                ·
                  cases hb
                ·
                  clear hb
                  refine AT_skip ?_
                  try simp only [thenA, inBlockA, ite_true, ite_false, reduceIte, Nat.reduceEqDiff]
                  refine hK15 _ ?_
                  refine AT_region_q fun K19 hK19 => ?_
                  simp [h1, h2, hp0, h3, hb21, hk22, hget, hcb, hwr, hst]
                  repeat (refine ⟨by first | omega | exact List.ne_nil_of_length_pos hp0 | (simp at *; omega), ?_⟩)
                  refine hK19 _ ?_
                  clear hK19 K19
                  try simp only [thenA, inBlockA, ite_true, ite_false, reduceIte, Nat.reduceEqDiff]
                  refine hK14 _ ?_
                  refine AT_region_q fun K20 hK20 => ?_
                  simp [h1, h2, hp0, h3, hb21, hk22, hget, hcb, hwr, hst]
                  repeat (refine ⟨by first | omega | exact List.ne_nil_of_length_pos hp0 | (simp at *; omega), ?_⟩)
                  refine hK20 _ ?_
                  clear hK20 K20
                  try simp only [thenA, inBlockA, ite_true, ite_false, reduceIte, Nat.reduceEqDiff]
                  refine hK11 _ (by first | rfl | simp) (s.tail.length - (k+1)) (by omega) ?_
                  refine ⟨k+1, stepD m b, by omega, ?_, ?_, hstl, by omega, by simp⟩
                  · rw [hda2, hda, List.all_cons, hdg, Bool.true_and]
                  · rw [hva, hda, valD_cons]
            ·
              try simp [h1, h2, hp0, h3] at hb21
              refine AT_exit ?_
              try simp only [thenA, inBlockA, ite_true, ite_false, reduceIte, Nat.reduceEqDiff]
              refine hK9 _ ?_
              refine AT_seq_k fun K21 hK21 => ?_
              have hnil := List.drop_eq_nil_of_le (show s.tail.length ≤ k by omega)
              have hall : s.tail.all digB = true := by rw [hda2, hnil]; rfl
              have hval : valD 0 s.tail = m := by rw [hva, hnil]; rfl
              by_cases hmx : (2147483647 : Int) < m
              ·
                have hR : locR s = -1 := by rw [hsr]; exact locR_val (by rw [hval]; omega)
                refine AT_seq_region fun K22 hK22 => ?_
                simp [h1, h2, hp0, h3, hb21, hmx]
                repeat (refine ⟨by first | omega | exact List.ne_nil_of_length_pos hp0 | (simp at *; omega), ?_⟩)
                try (
                  refine RVn_call (c_ref01x_Local g rnd (m : Nat) (by omega)) ?_
                  simp [h1, h2, hp0, h3, hb21, hmx]
                  repeat (refine ⟨by first | omega | exact List.ne_nil_of_length_pos hp0 | (simp at *; omega), ?_⟩))
                refine hK22 _ ?_
                clear hK22 K22
                refine AT_cond (b := true) (g := none) (by simp [h1, h2, hp0, h3, hb21, hmx]) (fun hb => ?_) (fun hb => ?_)
                ·
                  clear hb
                  refine AT_seq_region fun K23 hK23 => ?_
                  simp [h1, h2, hp0, h3, hb21, hmx]
                  repeat (refine ⟨by first | omega | exact List.ne_nil_of_length_pos hp0 | (simp at *; omega), ?_⟩)
                  refine hK23 _ ?_
                  clear hK23 K23
                  refine AT_ret ?_
                  simp [Tryd.f17]
                  exact hR.symm
                ·
                  cases hb
              ·
                by_cases hlo : locS (m : Nat) = s
                ·
                  have hlb : (locS (m : Nat) == s) = true := by simpa using hlo
                  have hsome := locOf_locS hlo (by rw [hsr]; simp) (by omega)
                  have hR : locR s = m := by simp [locR, hsome.1]
                  refine AT_seq_region fun K24 hK24 => ?_
                  simp [h1, h2, hp0, h3, hb21, hmx, hlb]
                  repeat (refine ⟨by first | omega | exact List.ne_nil_of_length_pos hp0 | (simp at *; omega), ?_⟩)
                  try (
                    refine RVn_call (c_ref01x_Local g rnd (m : Nat) (by omega)) ?_
                    simp [h1, h2, hp0, h3, hb21, hmx, hlb]
                    repeat (refine ⟨by first | omega | exact List.ne_nil_of_length_pos hp0 | (simp at *; omega), ?_⟩))
                  refine hK24 _ ?_
                  clear hK24 K24
                  refine AT_cond (b := false) (g := none) (by simp [h1, h2, hp0, h3, hb21, hmx, hlb]) (fun hb => ?_) (fun hb => ?_)
                  ·
                    cases hb
                  ·
                    clear hb
                    refine AT_skip ?_
                    try simp only [thenA, inBlockA, ite_true, ite_false, reduceIte, Nat.reduceEqDiff]
                    refine hK21 _ ?_
                    refine AT_seq_region fun K25 hK25 => ?_
                    simp [h1, h2, hp0, h3, hb21, hmx, hlb]
                    repeat (refine ⟨by first | omega | exact List.ne_nil_of_length_pos hp0 | (simp at *; omega), ?_⟩)
                    refine hK25 _ ?_
                    clear hK25 K25
                    refine AT_ret ?_
                    simp [Tryd.f17]
                    exact hR.symm
                ·
                  have hlb : (locS (m : Nat) == s) = false := by simpa using hlo
                  have hR : locR s = -1 := by rw [hsr]; exact locR_no (by rw [hval, ← hsr]; exact hlo)
                  refine AT_seq_region fun K26 hK26 => ?_
                  simp [h1, h2, hp0, h3, hb21, hmx, hlb]
                  repeat (refine ⟨by first | omega | exact List.ne_nil_of_length_pos hp0 | (simp at *; omega), ?_⟩)
                  try (
                    refine RVn_call (c_ref01x_Local g rnd (m : Nat) (by omega)) ?_
                    simp [h1, h2, hp0, h3, hb21, hmx, hlb]
                    repeat (refine ⟨by first | omega | exact List.ne_nil_of_length_pos hp0 | (simp at *; omega), ?_⟩))
                  refine hK26 _ ?_
                  clear hK26 K26
                  refine AT_cond (b := true) (g := none) (by simp [h1, h2, hp0, h3, hb21, hmx, hlb]) (fun hb => ?_) (fun hb => ?_)
                  ·
                    clear hb
                    refine AT_seq_region fun K27 hK27 => ?_
                    simp [h1, h2, hp0, h3, hb21, hmx, hlb]
                    repeat (refine ⟨by first | omega | exact List.ne_nil_of_length_pos hp0 | (simp at *; omega), ?_⟩)
                    refine hK27 _ ?_
                    clear hK27 K27
                    refine AT_ret ?_
                    simp [Tryd.f17]
                    exact hR.symm
                  ·
                    cases hb
      ·
        have h3 : ((s[0].toNat : Int) != 36) = true := by
          refine bne_iff_ne.2 (fun h => hc ?_)
          exact UInt8.toNat_inj.1 (by simpa using Int.ofNat.inj h)
        have hR : locR s = -1 := by cases s with
          | nil => simp at hp0
          | cons c r => simp at hc; simp [locR, locOf_none_head hc]
        refine AT_seq_region fun K28 hK28 => ?_
        simp [h1, h2, hp0, h3]
        repeat (refine ⟨by first | omega | exact List.ne_nil_of_length_pos hp0 | (simp at *; omega), ?_⟩)
        refine hK28 _ ?_
        clear hK28 K28
        refine AT_cond (b := true) (g := none) (by simp [h1, h2, hp0, h3]) (fun hb => ?_) (fun hb => ?_)
        ·
          clear hb
          refine AT_seq_region fun K29 hK29 => ?_
          simp [h1, h2, hp0, h3]
          repeat (refine ⟨by first | omega | exact List.ne_nil_of_length_pos hp0 | (simp at *; omega), ?_⟩)
          refine hK29 _ ?_
          clear hK29 K29
          refine AT_ret ?_
          simp [Tryd.f17]
          exact hR.symm
        ·
          cases hb

end Go.Proofs.YtngpggbigjeehaaDoor

/- Contracts. -/
import Derived.Test.YtngpggbigjeehaaDoorPt
import Derived.Test.YtngpggbigjeehaaDoorPvLa
import Derived.Test.YtngpggbigjeehaaDoorPvX
import Derived.Test.YtngpggbigjeehaaDoorXNaL
set_option linter.all false
set_option maxHeartbeats 1000000
set_option maxRecDepth 10000
namespace Go.Proofs.YtngpggbigjeehaaDoor
open Go Go.Pv
variable (g : Nat → Option (List AV)) (rnd : Bool)

theorem c_name_Local (n : Int) (h0 : -9223372036854775808 ≤ n) (h1 : n ≤ 9223372036854775807) (htab : g 3 = some pow10A) : Valid Tryd.prog (G0 g rnd) 14 [.int .i64 n] (.str (locS n)) := by
  have hlen : n < 0 ∨ (Lib.itoa n).length ≤ 19 := by
    rcases Int.lt_or_le n 0 with h | h
    · exact .inl h
    · exact .inr (itoa_len h h1)
  refine valid_of [] Tryd.func14 rfl (by kernel_rfl) ?_
  refine AT_seq_region fun K1 hK1 => ?_
  simp [Tryd.f14]
  repeat (refine ⟨by first | omega | (simp at *; omega), ?_⟩)
  refine hK1 _ ?_
  clear hK1 K1
  refine AT_seq_k fun K2 hK2 => ?_
  refine AT_seq_region fun K3 hK3 => ?_
  simp
  repeat (refine ⟨by first | omega | (simp at *; omega), ?_⟩)
  refine hK3 _ ?_
  clear hK3 K3
  refine AT_cond (g := none) rfl (fun hb4 => ?_) (fun hb4 => ?_)
  ·
    try simp at hb4
    refine AT_seq_region fun K4 hK4 => ?_
    simp [hb4]
    repeat (refine ⟨by first | omega | (simp at *; omega), ?_⟩)
    refine hK4 _ ?_
    clear hK4 K4
    refine AT_ret ?_
    simp [Tryd.f14]
    first
    | (simp [locS, hb4]; done)
    | (rw [locS, if_neg (by omega), itoa_decD (by omega)]; done)
    | (rw [locS, if_neg (by omega), itoa_decD (by omega)]; rfl)
  ·
    try simp at hb4
    refine AT_skip ?_
    try simp only [thenA, inBlockA, ite_true, ite_false, reduceIte, Nat.reduceEqDiff]
    refine hK2 _ ?_
    refine AT_seq_region fun K5 hK5 => ?_
    simp [hb4]
    repeat (refine ⟨by first | omega | (simp at *; omega), ?_⟩)
    refine RVn_call (c_strconv_Itoa g rnd n h0 h1 htab) ?_
    simp [hb4]
    repeat (refine ⟨by first | omega | (simp at *; omega), ?_⟩)
    refine hK5 _ ?_
    clear hK5 K5
    refine AT_ret ?_
    simp [Tryd.f14]
    first
    | (simp [locS, hb4]; done)
    | (rw [locS, if_neg (by omega), itoa_decD (by omega)]; done)
    | (rw [locS, if_neg (by omega), itoa_decD (by omega)]; rfl)

theorem cutL (s : Str) : ∃ rest ok, Valid Tryd.prog (G0 g rnd) 24 [.str s, .str [36]] (.tup [.str rest, .bool ok]) ∧ (ok = true → s = 36 :: rest) ∧ (ok = false → rest = s ∧ locOf s = none) := by
  have h := c_strings_CutPrefix g rnd s [36]
  cases s with
  | nil => exact ⟨_, _, h, fun h => by simp [Lib.hasPrefix] at h, fun _ => ⟨rfl, rfl⟩⟩
  | cons c r =>
    by_cases hc : c = 36
    · subst hc
      exact ⟨_, _, h, fun _ => by simp [Lib.trimPrefix, Lib.hasPrefix], fun h => by simp [Lib.hasPrefix] at h⟩
    · have hb := hasPrefix_not (r := r) hc
      exact ⟨_, _, h, fun h => (by rw [hb] at h; cases h), fun _ => ⟨by simp [Lib.trimPrefix, hb], locOf_none_head hc⟩⟩

theorem c_name_Index (s : Str) (hs : s.length ≤ 1000000) (htab : g 3 = some pow10A) (hers : ∃ x, g 1 = some [.iface 78 x]) (herr : ∃ x, g 2 = some [.iface 78 x]) : Valid Tryd.prog (G0 g rnd) 15 [.str s] (.tup [.int .i64 (locI s), .bool (locOf s).isSome]) := by

  refine valid_of [] Tryd.func15 rfl (by kernel_rfl) ?_
  refine AT_seq_region fun K1 hK1 => ?_
  simp [Tryd.f15]
  repeat (refine ⟨by first | omega | (simp at *; omega), ?_⟩)
  refine hK1 _ ?_
  clear hK1 K1
  obtain ⟨rest, ok, hcut, hok, hno⟩ := cutL g rnd s
  have hrl : rest.length ≤ 1000000 := by cases ok with
    | true => have := congrArg List.length (hok rfl); simp at this; omega
    | false => rw [(hno rfl).1]; exact hs
  have hat := c_strconv_Atoi g rnd rest (by omega) hers herr
  rcases atoiAV_cases 54 rest with ⟨v, hv, ha, hv1, hv2⟩ | ⟨hno2, v, ha⟩
  ·
    rw [ha] at hat
    cases ok
    ·
      have hnone := (hno rfl).2
      refine AT_seq_region fun K2 hK2 => ?_
      simp
      repeat (refine ⟨by first | omega | (simp at *; omega), ?_⟩)
      refine RVn_call (hcut) ?_
      simp
      repeat (refine ⟨by first | omega | (simp at *; omega), ?_⟩)
      refine hK2 _ ?_
      clear hK2 K2
      refine AT_seq_region fun K3 hK3 => ?_
      simp
      repeat (refine ⟨by first | omega | (simp at *; omega), ?_⟩)
      refine RVn_call (hat) ?_
      simp
      repeat (refine ⟨by first | omega | (simp at *; omega), ?_⟩)
      refine hK3 _ ?_
      clear hK3 K3
      refine AT_seq_k fun K4 hK4 => ?_
      refine AT_seq_region fun K5 hK5 => ?_
      simp
      repeat (refine ⟨by first | omega | (simp at *; omega), ?_⟩)
      try (
        refine RVn_call (c_name_Local g rnd v (by omega) (by omega) htab) ?_
        simp
        repeat (refine ⟨by first | omega | (simp at *; omega), ?_⟩))
      refine hK5 _ ?_
      clear hK5 K5
      refine AT_cond (b := true) (g := none) (by simp) (fun hb => ?_) (fun hb => ?_)
      ·
        clear hb
        refine AT_seq_region fun K6 hK6 => ?_
        simp
        repeat (refine ⟨by first | omega | (simp at *; omega), ?_⟩)
        refine hK6 _ ?_
        clear hK6 K6
        refine AT_ret ?_
        simp [Tryd.f15]
        first
        | (simp [locI, hnone]; done)
        | (have h3 := Int.toNat_of_nonneg hsome.2
           simp [locI, hsome.1]; omega)
      ·
        cases hb
    ·
      have hs36 := hok rfl
      by_cases hmx : 2147483647 < v
      ·
        have hnone : locOf s = none := by rw [hs36]; exact locOf_none_val hv (by omega)
        refine AT_seq_region fun K7 hK7 => ?_
        simp [hmx]
        repeat (refine ⟨by first | omega | (simp at *; omega), ?_⟩)
        refine RVn_call (hcut) ?_
        simp [hmx]
        repeat (refine ⟨by first | omega | (simp at *; omega), ?_⟩)
        refine hK7 _ ?_
        clear hK7 K7
        refine AT_seq_region fun K8 hK8 => ?_
        simp [hmx]
        repeat (refine ⟨by first | omega | (simp at *; omega), ?_⟩)
        refine RVn_call (hat) ?_
        simp [hmx]
        repeat (refine ⟨by first | omega | (simp at *; omega), ?_⟩)
        refine hK8 _ ?_
        clear hK8 K8
        refine AT_seq_k fun K9 hK9 => ?_
        refine AT_seq_region fun K10 hK10 => ?_
        simp [hmx]
        repeat (refine ⟨by first | omega | (simp at *; omega), ?_⟩)
        try (
          refine RVn_call (c_name_Local g rnd v (by omega) (by omega) htab) ?_
          simp [hmx]
          repeat (refine ⟨by first | omega | (simp at *; omega), ?_⟩))
        refine hK10 _ ?_
        clear hK10 K10
        refine AT_cond (b := true) (g := none) (by simp [hmx]) (fun hb => ?_) (fun hb => ?_)
        ·
          clear hb
          refine AT_seq_region fun K11 hK11 => ?_
          simp [hmx]
          repeat (refine ⟨by first | omega | (simp at *; omega), ?_⟩)
          refine hK11 _ ?_
          clear hK11 K11
          refine AT_ret ?_
          simp [Tryd.f15]
          first
          | (simp [locI, hnone]; done)
          | (have h3 := Int.toNat_of_nonneg hsome.2
             simp [locI, hsome.1]; omega)
        ·
          cases hb
      ·
        by_cases hlo : locS v = s
        ·
          have hlb : (locS v == s) = true := by simpa using hlo
          have hsome := locOf_locS hlo (by rw [hs36]; simp) (by omega)
          refine AT_seq_region fun K12 hK12 => ?_
          simp [hmx, hlb]
          repeat (refine ⟨by first | omega | (simp at *; omega), ?_⟩)
          refine RVn_call (hcut) ?_
          simp [hmx, hlb]
          repeat (refine ⟨by first | omega | (simp at *; omega), ?_⟩)
          refine hK12 _ ?_
          clear hK12 K12
          refine AT_seq_region fun K13 hK13 => ?_
          simp [hmx, hlb]
          repeat (refine ⟨by first | omega | (simp at *; omega), ?_⟩)
          refine RVn_call (hat) ?_
          simp [hmx, hlb]
          repeat (refine ⟨by first | omega | (simp at *; omega), ?_⟩)
          refine hK13 _ ?_
          clear hK13 K13
          refine AT_seq_k fun K14 hK14 => ?_
          refine AT_seq_region fun K15 hK15 => ?_
          simp [hmx, hlb]
          repeat (refine ⟨by first | omega | (simp at *; omega), ?_⟩)
          try (
            refine RVn_call (c_name_Local g rnd v (by omega) (by omega) htab) ?_
            simp [hmx, hlb]
            repeat (refine ⟨by first | omega | (simp at *; omega), ?_⟩))
          refine hK15 _ ?_
          clear hK15 K15
          refine AT_cond (b := false) (g := none) (by simp [hmx, hlb]) (fun hb => ?_) (fun hb => ?_)
          ·
            cases hb
          ·
            clear hb
            refine AT_skip ?_
            try simp only [thenA, inBlockA, ite_true, ite_false, reduceIte, Nat.reduceEqDiff]
            refine hK14 _ ?_
            refine AT_seq_region fun K16 hK16 => ?_
            simp [hmx, hlb]
            repeat (refine ⟨by first | omega | (simp at *; omega), ?_⟩)
            refine hK16 _ ?_
            clear hK16 K16
            refine AT_ret ?_
            simp [Tryd.f15]
            first
            | (simp [locI, hnone]; done)
            | (have h3 := Int.toNat_of_nonneg hsome.2
               simp [locI, hsome.1]; omega)
        ·
          have hlb : (locS v == s) = false := by simpa using hlo
          have hnone : locOf s = none := by rw [hs36]; exact locOf_none_val hv (fun h => hlo (by rw [hs36]; exact h.2))
          refine AT_seq_region fun K17 hK17 => ?_
          simp [hmx, hlb]
          repeat (refine ⟨by first | omega | (simp at *; omega), ?_⟩)
          refine RVn_call (hcut) ?_
          simp [hmx, hlb]
          repeat (refine ⟨by first | omega | (simp at *; omega), ?_⟩)
          refine hK17 _ ?_
          clear hK17 K17
          refine AT_seq_region fun K18 hK18 => ?_
          simp [hmx, hlb]
          repeat (refine ⟨by first | omega | (simp at *; omega), ?_⟩)
          refine RVn_call (hat) ?_
          simp [hmx, hlb]
          repeat (refine ⟨by first | omega | (simp at *; omega), ?_⟩)
          refine hK18 _ ?_
          clear hK18 K18
          refine AT_seq_k fun K19 hK19 => ?_
          refine AT_seq_region fun K20 hK20 => ?_
          simp [hmx, hlb]
          repeat (refine ⟨by first | omega | (simp at *; omega), ?_⟩)
          try (
            refine RVn_call (c_name_Local g rnd v (by omega) (by omega) htab) ?_
            simp [hmx, hlb]
            repeat (refine ⟨by first | omega | (simp at *; omega), ?_⟩))
          refine hK20 _ ?_
          clear hK20 K20
          refine AT_cond (b := true) (g := none) (by simp [hmx, hlb]) (fun hb => ?_) (fun hb => ?_)
          ·
            clear hb
            refine AT_seq_region fun K21 hK21 => ?_
            simp [hmx, hlb]
            repeat (refine ⟨by first | omega | (simp at *; omega), ?_⟩)
            refine hK21 _ ?_
            clear hK21 K21
            refine AT_ret ?_
            simp [Tryd.f15]
            first
            | (simp [locI, hnone]; done)
            | (have h3 := Int.toNat_of_nonneg hsome.2
               simp [locI, hsome.1]; omega)
          ·
            cases hb
  ·
    rw [ha] at hat
    cases ok
    ·
      have hnone := (hno rfl).2
      refine AT_seq_region fun K22 hK22 => ?_
      simp
      repeat (refine ⟨by first | omega | (simp at *; omega), ?_⟩)
      refine RVn_call (hcut) ?_
      simp
      repeat (refine ⟨by first | omega | (simp at *; omega), ?_⟩)
      refine hK22 _ ?_
      clear hK22 K22
      refine AT_seq_region fun K23 hK23 => ?_
      simp
      repeat (refine ⟨by first | omega | (simp at *; omega), ?_⟩)
      refine RVn_call (hat) ?_
      simp
      repeat (refine ⟨by first | omega | (simp at *; omega), ?_⟩)
      refine hK23 _ ?_
      clear hK23 K23
      refine AT_seq_k fun K24 hK24 => ?_
      refine AT_seq_region fun K25 hK25 => ?_
      simp
      repeat (refine ⟨by first | omega | (simp at *; omega), ?_⟩)
      try (
        refine RVn_call (c_name_Local g rnd v (by omega) (by omega) htab) ?_
        simp
        repeat (refine ⟨by first | omega | (simp at *; omega), ?_⟩))
      refine hK25 _ ?_
      clear hK25 K25
      refine AT_cond (b := true) (g := none) (by simp) (fun hb => ?_) (fun hb => ?_)
      ·
        clear hb
        refine AT_seq_region fun K26 hK26 => ?_
        simp
        repeat (refine ⟨by first | omega | (simp at *; omega), ?_⟩)
        refine hK26 _ ?_
        clear hK26 K26
        refine AT_ret ?_
        simp [Tryd.f15]
        first
        | (simp [locI, hnone]; done)
        | (have h3 := Int.toNat_of_nonneg hsome.2
           simp [locI, hsome.1]; omega)
      ·
        cases hb
    ·
      have hnone : locOf s = none := by rw [hok rfl]; exact locOf_none_atoi hno2
      refine AT_seq_region fun K27 hK27 => ?_
      simp
      repeat (refine ⟨by first | omega | (simp at *; omega), ?_⟩)
      refine RVn_call (hcut) ?_
      simp
      repeat (refine ⟨by first | omega | (simp at *; omega), ?_⟩)
      refine hK27 _ ?_
      clear hK27 K27
      refine AT_seq_region fun K28 hK28 => ?_
      simp
      repeat (refine ⟨by first | omega | (simp at *; omega), ?_⟩)
      refine RVn_call (hat) ?_
      simp
      repeat (refine ⟨by first | omega | (simp at *; omega), ?_⟩)
      refine hK28 _ ?_
      clear hK28 K28
      refine AT_seq_k fun K29 hK29 => ?_
      refine AT_seq_region fun K30 hK30 => ?_
      simp
      repeat (refine ⟨by first | omega | (simp at *; omega), ?_⟩)
      try (
        refine RVn_call (c_name_Local g rnd v (by omega) (by omega) htab) ?_
        simp
        repeat (refine ⟨by first | omega | (simp at *; omega), ?_⟩))
      refine hK30 _ ?_
      clear hK30 K30
      refine AT_cond (b := true) (g := none) (by simp) (fun hb => ?_) (fun hb => ?_)
      ·
        clear hb
        refine AT_seq_region fun K31 hK31 => ?_
        simp
        repeat (refine ⟨by first | omega | (simp at *; omega), ?_⟩)
        refine hK31 _ ?_
        clear hK31 K31
        refine AT_ret ?_
        simp [Tryd.f15]
        first
        | (simp [locI, hnone]; done)
        | (have h3 := Int.toNat_of_nonneg hsome.2
           simp [locI, hsome.1]; omega)
      ·
        cases hb

end Go.Proofs.YtngpggbigjeehaaDoor

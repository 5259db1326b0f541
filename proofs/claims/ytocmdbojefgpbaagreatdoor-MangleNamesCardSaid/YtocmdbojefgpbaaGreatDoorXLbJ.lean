import Derived.Test.YtocmdbojefgpbaaGreatDoorPt
import Derived.Test.YtocmdbojefgpbaaGreatDoorPvPb
import Derived.Test.YtocmdbojefgpbaaGreatDoorPvY
import Derived.Test.YtocmdbojefgpbaaGreatDoorXNaL
import Derived.Test.YtocmdbojefgpbaaGreatDoorXShelf
section
/- Contracts. -/
set_option linter.all false
set_option maxHeartbeats 1000000
set_option maxRecDepth 10000
namespace Go.Proofs.YtocmdbojefgpbaaGreatDoor
open Go Go.Pv
variable (g : Nat → Option (List AV)) (rnd : Bool)

theorem c_name_Local (n : Int) (h0 : -9223372036854775808 ≤ n) (h1 : n ≤ 9223372036854775807) (htab : g 3 = some pow10A) : Valid Tryz.prog (G0 g rnd) 52 [.int .i64 n] (.str (locS n)) := by
 have hlen : n < 0 ∨ (Lib.itoa n).length ≤ 19 := by
   rcases Int.lt_or_le n 0 with h | h
   · exact .inl h
   · exact .inr (itoa_len h h1)
 refine valid_of [] Tryz.func52 rfl (by kernel_rfl) ?_
 refine sr fun Z z => ?_
 simp [Tryz.f52]
 refine z _ ?_
 clear z Z
 refine AT_seq_k fun K1 hK1 => ?_
 refine sr fun Z z => ?_
 simp
 repeat refine sg ?_
 refine z _ ?_
 clear z Z
 refine AT_cond (g := none) rfl (fun hb4 => ?_) (fun hb4 => ?_)
 try simp at hb4
 refine sr fun Z z => ?_
 simp [hb4]
 refine z _ ?_
 clear z Z
 refine AT_ret ?_
 simp [Tryz.f52]
 first
 | (· simp [locS, hb4])
 | (· rw [locS, if_neg (by omega), itoa_decD (by omega)])
 | (rw [locS, if_neg (by omega), itoa_decD (by omega)]; rfl)
 try simp at hb4
 refine AT_skip ?_
 try simp only [nrm, reduceIte, Nat.reduceEqDiff]
 refine hK1 _ ?_
 refine sr fun Z z => ?_
 simp [hb4]
 repeat refine sg ?_
 refine RVn_call (c_strconv_Itoa g rnd n h0 h1 htab) ?_
 simp [hb4]
 repeat refine sg ?_
 refine z _ ?_
 clear z Z
 refine AT_ret ?_
 simp [Tryz.f52]
 first
 | (· simp [locS, hb4])
 | (· rw [locS, if_neg (by omega), itoa_decD (by omega)])
 | (rw [locS, if_neg (by omega), itoa_decD (by omega)]; rfl)

theorem cutL (s : Str) : ∃ rest ok, Valid Tryz.prog (G0 g rnd) 50 [.str s, .str [36]] (.tup [.str rest, .bool ok]) ∧ (ok = true → s = 36 :: rest) ∧ (ok = false → rest = s ∧ locOf s = none) := by
  have h := c_strings_CutPrefix g rnd s [36]
  cases s with
  | nil => exact ⟨_, _, h, fun h => by simp [Lib.hasPrefix] at h, fun _ => ⟨rfl, rfl⟩⟩
  | cons c r =>
    by_cases hc : c = 36
    · subst hc
      exact ⟨_, _, h, fun _ => by simp [Lib.trimPrefix, Lib.hasPrefix], fun h => by simp [Lib.hasPrefix] at h⟩
    · have hb := hasPrefix_not (r := r) hc
      exact ⟨_, _, h, fun h => (by rw [hb] at h; cases h), fun _ => ⟨by simp [Lib.trimPrefix, hb], locOf_none_head hc⟩⟩

theorem c_name_Index (s : Str) (hs : s.length ≤ 1000000) (htab : g 3 = some pow10A) (hers : ∃ x, g 1 = some [.iface 159 x]) (herr : ∃ x, g 2 = some [.iface 159 x]) : Valid Tryz.prog (G0 g rnd) 31 [.str s] (.tup [.int .i64 (locI s), .bool (locOf s).isSome]) := by

 refine valid_of [] Tryz.func31 rfl (by kernel_rfl) ?_
 refine sr fun Z z => ?_
 simp [Tryz.f31]
 refine z _ ?_
 clear z Z
 obtain ⟨rest, ok, hcut, hok, hno⟩ := cutL g rnd s
 have hrl : rest.length ≤ 1000000 := by cases ok with
   | true => have := congrArg List.length (hok rfl); simp at this; omega
   | false => rw [(hno rfl).1]; exact hs
 have hat := c_strconv_Atoi g rnd rest (by omega) hers herr
 rcases atoiAV_cases 115 rest with ⟨v, hv, ha, hv1, hv2⟩ | ⟨hno2, v, ha⟩
 rw [ha] at hat
 cases ok
 have hnone := (hno rfl).2
 refine sr fun Z z => ?_
 simp
 repeat refine sg ?_
 refine RVn_call (hcut) ?_
 simp
 repeat refine sg ?_
 refine z _ ?_
 clear z Z
 refine sr fun Z z => ?_
 simp
 repeat refine sg ?_
 refine RVn_call (hat) ?_
 simp
 repeat refine sg ?_
 refine z _ ?_
 clear z Z
 refine AT_seq_k fun K1 hK1 => ?_
 refine sr fun Z z => ?_
 simp
 repeat refine sg ?_
 try (
  refine RVn_call (c_name_Local g rnd v (by omega) (by omega) htab) ?_
  simp
  repeat refine sg ?_)
 refine z _ ?_
 clear z Z
 refine cT (by simp) ?_
 refine sr fun Z z => ?_
 simp
 refine z _ ?_
 clear z Z
 refine AT_ret ?_
 simp [Tryz.f31]
 first
 | (· simp [locI, hnone])
 | (have h3 := Int.toNat_of_nonneg hsome.2
    simp [locI, hsome.1]; omega)
 have hs36 := hok rfl
 by_cases hmx : 2147483647 < v
 have hnone : locOf s = none := by rw [hs36]; exact locOf_none_val hv (by omega)
 refine sr fun Z z => ?_
 simp [hmx]
 repeat refine sg ?_
 refine RVn_call (hcut) ?_
 simp [hmx]
 repeat refine sg ?_
 refine z _ ?_
 clear z Z
 refine sr fun Z z => ?_
 simp [hmx]
 repeat refine sg ?_
 refine RVn_call (hat) ?_
 simp [hmx]
 repeat refine sg ?_
 refine z _ ?_
 clear z Z
 refine AT_seq_k fun K2 hK2 => ?_
 refine sr fun Z z => ?_
 simp [hmx]
 repeat refine sg ?_
 try (
  refine RVn_call (c_name_Local g rnd v (by omega) (by omega) htab) ?_
  simp [hmx]
  repeat refine sg ?_)
 refine z _ ?_
 clear z Z
 refine cT (by simp [hmx]) ?_
 refine sr fun Z z => ?_
 simp [hmx]
 refine z _ ?_
 clear z Z
 refine AT_ret ?_
 simp [Tryz.f31]
 first
 | (· simp [locI, hnone])
 | (have h3 := Int.toNat_of_nonneg hsome.2
    simp [locI, hsome.1]; omega)
 by_cases hlo : locS v = s
 have hlb : (locS v == s) = true := by simpa using hlo
 have hsome := locOf_locS hlo (by rw [hs36]; simp) (by omega)
 refine sr fun Z z => ?_
 simp [hmx, hlb]
 repeat refine sg ?_
 refine RVn_call (hcut) ?_
 simp [hmx, hlb]
 repeat refine sg ?_
 refine z _ ?_
 clear z Z
 refine sr fun Z z => ?_
 simp [hmx, hlb]
 repeat refine sg ?_
 refine RVn_call (hat) ?_
 simp [hmx, hlb]
 repeat refine sg ?_
 refine z _ ?_
 clear z Z
 refine AT_seq_k fun K3 hK3 => ?_
 refine sr fun Z z => ?_
 simp [hmx, hlb]
 repeat refine sg ?_
 try (
  refine RVn_call (c_name_Local g rnd v (by omega) (by omega) htab) ?_
  simp [hmx, hlb]
  repeat refine sg ?_)
 refine z _ ?_
 clear z Z
 refine cF (by simp [hmx, hlb]) ?_
 refine AT_skip ?_
 try simp only [nrm, reduceIte, Nat.reduceEqDiff]
 refine hK3 _ ?_
 refine sr fun Z z => ?_
 simp [hmx, hlb]
 refine z _ ?_
 clear z Z
 refine AT_ret ?_
 simp [Tryz.f31]
 first
 | (· simp [locI, hnone])
 | (have h3 := Int.toNat_of_nonneg hsome.2
    simp [locI, hsome.1]; omega)
 have hlb : (locS v == s) = false := by simpa using hlo
 have hnone : locOf s = none := by rw [hs36]; exact locOf_none_val hv (fun h => hlo (by rw [hs36]; exact h.2))
 refine sr fun Z z => ?_
 simp [hmx, hlb]
 repeat refine sg ?_
 refine RVn_call (hcut) ?_
 simp [hmx, hlb]
 repeat refine sg ?_
 refine z _ ?_
 clear z Z
 refine sr fun Z z => ?_
 simp [hmx, hlb]
 repeat refine sg ?_
 refine RVn_call (hat) ?_
 simp [hmx, hlb]
 repeat refine sg ?_
 refine z _ ?_
 clear z Z
 refine AT_seq_k fun K4 hK4 => ?_
 refine sr fun Z z => ?_
 simp [hmx, hlb]
 repeat refine sg ?_
 try (
  refine RVn_call (c_name_Local g rnd v (by omega) (by omega) htab) ?_
  simp [hmx, hlb]
  repeat refine sg ?_)
 refine z _ ?_
 clear z Z
 refine cT (by simp [hmx, hlb]) ?_
 refine sr fun Z z => ?_
 simp [hmx, hlb]
 refine z _ ?_
 clear z Z
 refine AT_ret ?_
 simp [Tryz.f31]
 first
 | (· simp [locI, hnone])
 | (have h3 := Int.toNat_of_nonneg hsome.2
    simp [locI, hsome.1]; omega)
 rw [ha] at hat
 cases ok
 have hnone := (hno rfl).2
 refine sr fun Z z => ?_
 simp
 repeat refine sg ?_
 refine RVn_call (hcut) ?_
 simp
 repeat refine sg ?_
 refine z _ ?_
 clear z Z
 refine sr fun Z z => ?_
 simp
 repeat refine sg ?_
 refine RVn_call (hat) ?_
 simp
 repeat refine sg ?_
 refine z _ ?_
 clear z Z
 refine AT_seq_k fun K5 hK5 => ?_
 refine sr fun Z z => ?_
 simp
 repeat refine sg ?_
 try (
  refine RVn_call (c_name_Local g rnd v (by omega) (by omega) htab) ?_
  simp
  repeat refine sg ?_)
 refine z _ ?_
 clear z Z
 refine cT (by simp) ?_
 refine sr fun Z z => ?_
 simp
 refine z _ ?_
 clear z Z
 refine AT_ret ?_
 simp [Tryz.f31]
 first
 | (· simp [locI, hnone])
 | (have h3 := Int.toNat_of_nonneg hsome.2
    simp [locI, hsome.1]; omega)
 have hnone : locOf s = none := by rw [hok rfl]; exact locOf_none_atoi hno2
 refine sr fun Z z => ?_
 simp
 repeat refine sg ?_
 refine RVn_call (hcut) ?_
 simp
 repeat refine sg ?_
 refine z _ ?_
 clear z Z
 refine sr fun Z z => ?_
 simp
 repeat refine sg ?_
 refine RVn_call (hat) ?_
 simp
 repeat refine sg ?_
 refine z _ ?_
 clear z Z
 refine AT_seq_k fun K6 hK6 => ?_
 refine sr fun Z z => ?_
 simp
 repeat refine sg ?_
 try (
  refine RVn_call (c_name_Local g rnd v (by omega) (by omega) htab) ?_
  simp
  repeat refine sg ?_)
 refine z _ ?_
 clear z Z
 refine cT (by simp) ?_
 refine sr fun Z z => ?_
 simp
 refine z _ ?_
 clear z Z
 refine AT_ret ?_
 simp [Tryz.f31]
 first
 | (· simp [locI, hnone])
 | (have h3 := Int.toNat_of_nonneg hsome.2
    simp [locI, hsome.1]; omega)

end Go.Proofs.YtocmdbojefgpbaaGreatDoor
end

section
/- Contracts. -/
set_option linter.all false
set_option maxHeartbeats 1000000
set_option maxRecDepth 10000
namespace Go.Proofs.YtocmdbojefgpbaaGreatDoor
open Go Go.Pv
variable (g : Nat → Option (List AV)) (rnd : Bool)

theorem c_ref01x_Decimal : ∀ n : Nat, n ≤ 9223372036854775807 → Valid Tryz.prog (G0 g rnd) 36 [.int .i64 n] (.str (decD n)) := by
 intro n
 induction n using Nat.strongRecOn with
 | _ n ih =>
 intro hn
 have hw : ∀ d : Int, 0 ≤ d → d < 10 → IntKind.u8.wrap (48 + d) = 48 + d := fun d h1 h2 => by rw [IntKind.wrap_u8]; omega
 have hdiv : (n : Int).tdiv 10 = ((n / 10 : Nat) : Int) := rfl
 have hmod : (n : Int).tmod 10 = ((n % 10 : Nat) : Int) := rfl
 have hdl := decD_len 18 (n / 10) (pow19 (by omega))
 refine valid_of [] Tryz.func36 rfl (by kernel_rfl) ?_
 refine sr fun Z z => ?_
 simp [hdiv, hmod, Tryz.f36]
 refine z _ ?_
 clear z Z
 refine AT_seq_k fun K1 hK1 => ?_
 refine sr fun Z z => ?_
 simp [hdiv, hmod]
 repeat refine sg ?_
 refine z _ ?_
 clear z Z
 refine AT_cond (g := none) rfl (fun hb4 => ?_) (fun hb4 => ?_)
 try simp [hdiv, hmod] at hb4
 refine sr fun Z z => ?_
 have hwn := hw n (by omega) (by omega)
 have htn : (48 + (n : Int)).toNat = 48 + n := by omega
 simp [hdiv, hmod, hwn, htn, hb4]
 repeat refine sg ?_
 refine z _ ?_
 clear z Z
 refine AT_ret ?_
 simp [hdiv, hmod, Tryz.f36]
 first
 | exact (decD_small2 (by omega)).symm
 | exact (decD_big2 (by omega)).symm
 try simp [hdiv, hmod] at hb4
 refine AT_skip ?_
 try simp only [nrm, reduceIte, Nat.reduceEqDiff]
 refine hK1 _ ?_
 refine AT_seq_draw Pt.mixed (by kernel_rfl) fun Z z => ?_
 have hwn := hw ((n % 10 : Nat) : Int) (by omega) (by omega)
 simp only [Int.natCast_emod, Int.cast_ofNat_Int] at hwn
 have htn : (48 + (n : Int) % 10).toNat = 48 + n % 10 := by omega
 simp [hdiv, hmod, hwn, htn, hb4]
 repeat refine sg ?_
 refine RVdn_call (ih (n / 10) (by omega) (by omega)) ?_
 simp [hdiv, hmod, hwn, htn, hb4]
 repeat refine sg ?_
 refine z _ ?_
 clear z Z
 refine AT_ret ?_
 simp [hdiv, hmod, Tryz.f36]
 first
 | exact (decD_small2 (by omega)).symm
 | exact (decD_big2 (by omega)).symm

theorem c_ref01x_Local (n : Int) (h1 : n ≤ 9223372036854775807) : Valid Tryz.prog (G0 g rnd) 49 [.int .i64 n] (.str (locS n)) := by
 have hlen : n < 0 ∨ (decD n.toNat).length ≤ 19 := by
   rcases Int.lt_or_le n 0 with h | h
   · exact .inl h
   · exact .inr (decD_len 18 _ (pow19 (by omega)))
 refine valid_of [] Tryz.func49 rfl (by kernel_rfl) ?_
 refine sr fun Z z => ?_
 simp [Tryz.f49]
 refine z _ ?_
 clear z Z
 refine AT_seq_k fun K1 hK1 => ?_
 refine sr fun Z z => ?_
 simp
 repeat refine sg ?_
 refine z _ ?_
 clear z Z
 refine AT_cond (g := none) rfl (fun hb4 => ?_) (fun hb4 => ?_)
 try simp at hb4
 refine sr fun Z z => ?_
 simp [hb4]
 refine z _ ?_
 clear z Z
 refine AT_ret ?_
 simp [Tryz.f49]
 first
 | (· simp [locS, hb4])
 | (· rw [locS, if_neg (by omega)])
 | (rw [locS, if_neg (by omega)]; rfl)
 try simp at hb4
 refine AT_skip ?_
 try simp only [nrm, reduceIte, Nat.reduceEqDiff]
 refine hK1 _ ?_
 refine sr fun Z z => ?_
 simp [hb4]
 repeat refine sg ?_
 refine RVn_call ((by have h := c_ref01x_Decimal g rnd n.toNat (by omega); rw [Int.toNat_of_nonneg (by omega)] at h; exact h)) ?_
 simp [hb4]
 repeat refine sg ?_
 refine z _ ?_
 clear z Z
 refine AT_ret ?_
 simp [Tryz.f49]
 first
 | (· simp [locS, hb4])
 | (· rw [locS, if_neg (by omega)])
 | (rw [locS, if_neg (by omega)]; rfl)

theorem c_ref01x_Index (s : Str) (hs : s.length ≤ 1000000) : Valid Tryz.prog (G0 g rnd) 30 [.str s] (.int .i64 (locR s)) := by

 refine valid_of [] Tryz.func30 rfl (by kernel_rfl) ?_
 refine sr fun Z z => ?_
 simp [Tryz.f30]
 refine z _ ?_
 clear z Z
 refine sr fun Z z => ?_
 simp
 refine z _ ?_
 clear z Z
 refine AT_seq_k fun K1 hK1 => ?_
 rcases Nat.lt_or_ge s.length 2 with hl | hl
 have h1 : (s.length : Int) < 2 := by omega
 have hR : locR s = -1 := locR_short hl
 refine sr fun Z z => ?_
 simp [h1]
 repeat (refine ⟨by first | omega | exact List.ne_nil_of_length_pos hp0 | (simp at *; omega), ?_⟩)
 refine z _ ?_
 clear z Z
 refine cT (by simp [h1]) ?_
 refine sr fun Z z => ?_
 simp [h1]
 refine z _ ?_
 clear z Z
 refine AT_ret ?_
 simp [Tryz.f30]
 exact hR.symm
 have h1 : ¬ (s.length : Int) < 2 := by omega
 have hp0 : 0 < s.length := by omega
 rcases Nat.lt_or_ge 11 s.length with hl2 | hl2
 have h2 : (11 : Int) < s.length := by omega
 have hR : locR s = -1 := locR_long hl2
 refine sr fun Z z => ?_
 simp [h1, h2]
 repeat (refine ⟨by first | omega | exact List.ne_nil_of_length_pos hp0 | (simp at *; omega), ?_⟩)
 refine z _ ?_
 clear z Z
 refine cT (by simp [h1, h2]) ?_
 refine sr fun Z z => ?_
 simp [h1, h2]
 refine z _ ?_
 clear z Z
 refine AT_ret ?_
 simp [Tryz.f30]
 exact hR.symm
 have h2 : ¬ (11 : Int) < s.length := by omega
 by_cases hc : s[0] = 36
 have h3 : ((s[0].toNat : Int) != 36) = false := by rw [hc]; rfl
 have hsr : s = 36 :: s.tail := by cases s with
   | nil => simp at hp0
   | cons c r => simp at hc; simp [hc]
 have hrl : s.tail.length = s.length - 1 := by simp
 refine sr fun Z z => ?_
 simp [h1, h2, hp0, h3]
 repeat (refine ⟨by first | omega | exact List.ne_nil_of_length_pos hp0 | (simp at *; omega), ?_⟩)
 refine z _ ?_
 clear z Z
 refine cF (by simp [h1, h2, hp0, h3]) ?_
 refine AT_skip ?_
 try simp only [nrm, reduceIte, Nat.reduceEqDiff]
 refine hK1 _ ?_
 refine AT_seq_k fun K2 hK2 => ?_
 refine sr fun Z z => ?_
 simp [h1, h2, hp0, h3]
 refine z _ ?_
 clear z Z
 refine AT_block ?_
 refine AT_loop_q [0,3,4] [] (fun j st => ∃ k m, k ≤ s.tail.length ∧ s.tail.all digB = (s.tail.drop k).all digB ∧ valD 0 s.tail = valD m (s.tail.drop k) ∧ m < 10 ^ k ∧ j = s.tail.length - k ∧ st = { n := 46, tm := [(0, .v (.str s) none), (3, .v (.int .i64 (m : Nat)) none), (4, .v (.int .i64 (k + 1 : Nat)) none)], bx := [], tb := [], sh := [], hint := [] }) (s.tail.length) (by first | rfl | simp) ?_ ?_
 exact ⟨0, 0, by simp⟩
 rintro j st ⟨k, m, hk, hda2, hva, hm, rfl, rfl⟩ K3 hK3
 have hpw : (10 : Nat) ^ k ≤ 10 ^ 10 := Nat.pow_le_pow_right (by decide) (by omega)
 have h10 : (10 : Nat) ^ 10 = 10000000000 := by decide
 refine AT_seq_k fun K4 hK4 => ?_
 refine sr fun Z z => ?_
 have hkk : k + 1 ≤ s.length := by omega
 simp [h1, h2, hp0, h3]
 repeat (refine ⟨by first | omega | exact List.ne_nil_of_length_pos hp0 | (simp at *; omega), ?_⟩)
 refine z _ ?_
 clear z Z
 refine AT_cond (g := none) rfl (fun hb21 => ?_) (fun hb21 => ?_)
 try simp [h1, h2, hp0, h3] at hb21
 refine AT_skip ?_
 try simp only [nrm, reduceIte, Nat.reduceEqDiff]
 refine hK4 _ ?_
 refine AT_seq_k fun K5 hK5 => ?_
 refine AT_block ?_
 refine AT_seq_k fun K6 hK6 => ?_
 have hk21 : k < s.tail.length := by omega
 have hk22 : k + 1 < s.length := by omega
 have hda := List.drop_eq_getElem_cons hk21
 obtain ⟨b, hb⟩ : ∃ b, s.tail[k] = b := ⟨_, rfl⟩
 have hget : s[k+1] = b := by rw [← hb]; simp
 rw [hb] at hda
 cases hdg : digB b
 have hcb : (clsI (b.toNat : Int) != 2) = true := by
   refine bne_iff_ne.2 (fun h => ?_)
   rw [(clsI_dig _).1 h] at hdg; cases hdg
 have hR : locR s = -1 := by rw [hsr]; exact locR_bad (by rw [hda2, hda, List.all_cons, hdg]; rfl)
 refine sr fun Z z => ?_
 simp [h1, h2, hp0, h3, hb21, hk22, hget, hcb]
 repeat (refine ⟨by first | omega | exact List.ne_nil_of_length_pos hp0 | (simp at *; omega), ?_⟩)
 refine RVn_call (c_ref01x_Class g rnd _) ?_
 simp [h1, h2, hp0, h3, hb21, hk22, hget, hcb]
 repeat (refine ⟨by first | omega | exact List.ne_nil_of_length_pos hp0 | (simp at *; omega), ?_⟩)
 refine z _ ?_
 clear z Z
 refine cT (by simp [h1, h2, hp0, h3, hb21, hk22, hget, hcb]) ?_
 refine sr fun Z z => ?_
 simp [h1, h2, hp0, h3, hb21, hk22, hget, hcb]
 refine z _ ?_
 clear z Z
 refine AT_ret ?_
 simp [Tryz.f30]
 exact hR.symm
 have hcb : (clsI (b.toNat : Int) != 2) = false := by rw [(clsI_dig _).2 hdg]; rfl
 have hdr := hdg
 simp only [digB, Bool.and_eq_true, decide_eq_true_eq] at hdr
 obtain ⟨hdr1, hdr2⟩ := hdr
 have hwr : IntKind.i64.wrap ((b.toNat : Int) - 48) = (b.toNat : Int) - 48 := by rw [IntKind.wrap_i64]; omega
 have hst := stepD_int m hdr1 hdr2
 have hstl := step_lt (k := k) hdr1 hdr2 hm
 refine sr fun Z z => ?_
 simp [h1, h2, hp0, h3, hb21, hk22, hget, hcb, hwr, hst]
 repeat (refine ⟨by first | omega | exact List.ne_nil_of_length_pos hp0 | (simp at *; omega), ?_⟩)
 refine RVn_call (c_ref01x_Class g rnd _) ?_
 simp [h1, h2, hp0, h3, hb21, hk22, hget, hcb, hwr, hst]
 repeat (refine ⟨by first | omega | exact List.ne_nil_of_length_pos hp0 | (simp at *; omega), ?_⟩)
 refine z _ ?_
 clear z Z
 refine cF (by simp [h1, h2, hp0, h3, hb21, hk22, hget, hcb, hwr, hst]) ?_
 refine AT_skip ?_
 try simp only [nrm, reduceIte, Nat.reduceEqDiff]
 refine hK6 _ ?_
 refine AT_region_q fun Z z => ?_
 simp [h1, h2, hp0, h3, hb21, hk22, hget, hcb, hwr, hst]
 repeat (refine ⟨by first | omega | exact List.ne_nil_of_length_pos hp0 | (simp at *; omega), ?_⟩)
 refine z _ ?_
 clear z Z
 try simp only [nrm, reduceIte, Nat.reduceEqDiff]
 refine hK5 _ ?_
 refine AT_region_q fun Z z => ?_
 simp [h1, h2, hp0, h3, hb21, hk22, hget, hcb, hwr, hst]
 repeat (refine ⟨by first | omega | exact List.ne_nil_of_length_pos hp0 | (simp at *; omega), ?_⟩)
 refine z _ ?_
 clear z Z
 try simp only [nrm, reduceIte, Nat.reduceEqDiff]
 refine hK3 _ (by first | rfl | simp) (s.tail.length - (k+1)) (by omega) ?_
 refine ⟨k+1, stepD m b, by omega, ?_, ?_, hstl, by omega, by simp⟩
 · rw [hda2, hda, List.all_cons, hdg, Bool.true_and]
 · rw [hva, hda, valD_cons]
 try simp [h1, h2, hp0, h3] at hb21
 refine AT_exit ?_
 try simp only [nrm, reduceIte, Nat.reduceEqDiff]
 refine hK2 _ ?_
 refine AT_seq_k fun K7 hK7 => ?_
 have hnil := List.drop_eq_nil_of_le (show s.tail.length ≤ k by omega)
 have hall : s.tail.all digB = true := by rw [hda2, hnil]; rfl
 have hval : valD 0 s.tail = m := by rw [hva, hnil]; rfl
 by_cases hmx : (2147483647 : Int) < m
 have hR : locR s = -1 := by rw [hsr]; exact locR_val (by rw [hval]; omega)
 refine sr fun Z z => ?_
 simp [h1, h2, hp0, h3, hb21, hmx]
 repeat (refine ⟨by first | omega | exact List.ne_nil_of_length_pos hp0 | (simp at *; omega), ?_⟩)
 try (
  refine RVn_call (c_ref01x_Local g rnd (m : Nat) (by omega)) ?_
  simp [h1, h2, hp0, h3, hb21, hmx]
  repeat (refine ⟨by first | omega | exact List.ne_nil_of_length_pos hp0 | (simp at *; omega), ?_⟩))
 refine z _ ?_
 clear z Z
 refine cT (by simp [h1, h2, hp0, h3, hb21, hmx]) ?_
 refine sr fun Z z => ?_
 simp [h1, h2, hp0, h3, hb21, hmx]
 refine z _ ?_
 clear z Z
 refine AT_ret ?_
 simp [Tryz.f30]
 exact hR.symm
 by_cases hlo : locS (m : Nat) = s
 have hlb : (locS (m : Nat) == s) = true := by simpa using hlo
 have hsome := locOf_locS hlo (by rw [hsr]; simp) (by omega)
 have hR : locR s = m := by simp [locR, hsome.1]
 refine sr fun Z z => ?_
 simp [h1, h2, hp0, h3, hb21, hmx, hlb]
 repeat (refine ⟨by first | omega | exact List.ne_nil_of_length_pos hp0 | (simp at *; omega), ?_⟩)
 try (
  refine RVn_call (c_ref01x_Local g rnd (m : Nat) (by omega)) ?_
  simp [h1, h2, hp0, h3, hb21, hmx, hlb]
  repeat (refine ⟨by first | omega | exact List.ne_nil_of_length_pos hp0 | (simp at *; omega), ?_⟩))
 refine z _ ?_
 clear z Z
 refine cF (by simp [h1, h2, hp0, h3, hb21, hmx, hlb]) ?_
 refine AT_skip ?_
 try simp only [nrm, reduceIte, Nat.reduceEqDiff]
 refine hK7 _ ?_
 refine sr fun Z z => ?_
 simp [h1, h2, hp0, h3, hb21, hmx, hlb]
 refine z _ ?_
 clear z Z
 refine AT_ret ?_
 simp [Tryz.f30]
 exact hR.symm
 have hlb : (locS (m : Nat) == s) = false := by simpa using hlo
 have hR : locR s = -1 := by rw [hsr]; exact locR_no (by rw [hval, ← hsr]; exact hlo)
 refine sr fun Z z => ?_
 simp [h1, h2, hp0, h3, hb21, hmx, hlb]
 repeat (refine ⟨by first | omega | exact List.ne_nil_of_length_pos hp0 | (simp at *; omega), ?_⟩)
 try (
  refine RVn_call (c_ref01x_Local g rnd (m : Nat) (by omega)) ?_
  simp [h1, h2, hp0, h3, hb21, hmx, hlb]
  repeat (refine ⟨by first | omega | exact List.ne_nil_of_length_pos hp0 | (simp at *; omega), ?_⟩))
 refine z _ ?_
 clear z Z
 refine cT (by simp [h1, h2, hp0, h3, hb21, hmx, hlb]) ?_
 refine sr fun Z z => ?_
 simp [h1, h2, hp0, h3, hb21, hmx, hlb]
 refine z _ ?_
 clear z Z
 refine AT_ret ?_
 simp [Tryz.f30]
 exact hR.symm
 have h3 : ((s[0].toNat : Int) != 36) = true := by
   refine bne_iff_ne.2 (fun h => hc ?_)
   exact UInt8.toNat_inj.1 (by simpa using Int.ofNat.inj h)
 have hR : locR s = -1 := by cases s with
   | nil => simp at hp0
   | cons c r => simp at hc; simp [locR, locOf_none_head hc]
 refine sr fun Z z => ?_
 simp [h1, h2, hp0, h3]
 repeat (refine ⟨by first | omega | exact List.ne_nil_of_length_pos hp0 | (simp at *; omega), ?_⟩)
 refine z _ ?_
 clear z Z
 refine cT (by simp [h1, h2, hp0, h3]) ?_
 refine sr fun Z z => ?_
 simp [h1, h2, hp0, h3]
 refine z _ ?_
 clear z Z
 refine AT_ret ?_
 simp [Tryz.f30]
 exact hR.symm

end Go.Proofs.YtocmdbojefgpbaaGreatDoor
end

section
/- Library contracts. -/
set_option linter.all false
set_option maxHeartbeats 1000000
set_option maxRecDepth 10000
namespace Go.Proofs.YtocmdbojefgpbaaGreatDoor
open Go Go.Pv
variable (g : Nat → Option (List AV)) (rnd : Bool)

theorem c_strings_Join (l : List Str) (sep : Str) (hn : l.length ≤ 140737488355328) (hlen : (Lib.join l sep).length ≤ 140737488355328) : Valid Tryz.prog (G0 g rnd) 55 [.slice (l.map encS), .str sep] (.str (Lib.join l sep)) :=
  join_valid (by kernel_rfl) (fun a c sep w => Tryz.strings_Join_none a c sep w) (fun bk o c xs sep w h1 h2 h3 h4 h5 => Tryz.strings_Join bk o c xs sep w h1 h2 h3 h4 h5) l sep hn hlen

end Go.Proofs.YtocmdbojefgpbaaGreatDoor
end

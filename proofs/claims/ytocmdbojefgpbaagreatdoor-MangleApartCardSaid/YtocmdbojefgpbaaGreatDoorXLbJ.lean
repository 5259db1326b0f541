import Derived.Test.YtocmdbojefgpbaaGreatDoorPt
import Derived.Test.YtocmdbojefgpbaaGreatDoorPvPa
import Derived.Test.YtocmdbojefgpbaaGreatDoorPvY
import Derived.Test.YtocmdbojefgpbaaGreatDoorXNaM
import Derived.Test.YtocmdbojefgpbaaGreatDoorXShelf
section
/- Contracts. -/
set_option linter.all false
set_option maxHeartbeats 1000000
set_option maxRecDepth 10000
namespace Go.Proofs.YtocmdbojefgpbaaGreatDoor
open Go Go.Pv
variable (g : Nat → Option (List AV)) (rnd : Bool)

theorem c_ref01x_Decimal : ∀ n : Nat, n ≤ 9223372036854775807 → Valid Tryz.prog (G0 g rnd) 36 [.int .i64 n] (.str (decD n)) := by
 intro n
 induction n using Nat.strongRecOn with
 | _ n ih =>
 intro hn
 have hw : ∀ d : Int, 0 ≤ d → d < 10 → IntKind.u8.wrap (48 + d) = 48 + d := fun d h1 h2 => by rw [IntKind.wrap_u8]; omega
 have hdiv : (n : Int).tdiv 10 = ((n / 10 : Nat) : Int) := rfl
 have hmod : (n : Int).tmod 10 = ((n % 10 : Nat) : Int) := rfl
 have hdl := decD_len 18 (n / 10) (pow19 (by omega))
 refine valid_of [] Tryz.func36 rfl (by kernel_rfl) ?_
 refine sr fun Z z => ?_
 simp [Tryz.f36]
 apply z
 refine AT_seq_k fun K1 hK1 => ?_
 refine sr fun Z z => ?_
 simp
 apply z
 refine AT_cond (g := none) rfl (fun hb4 => ?_) (fun hb4 => ?_)
 simp at hb4
 refine sr fun Z z => ?_
 have hwn := hw n (by omega) (by omega)
 have htn : (48 + (n : Int)).toNat = 48 + n := by omega
 simp [hwn, htn, hb4]
 repeat refine sg ?_
 apply z
 refine AT_ret ?_
 simp [Tryz.f36]
 exact (decD_small2 (by omega)).symm
 simp at hb4
 refine AT_skip ?_
 refine hK1 _ ?_
 refine AT_seq_draw Pt.mixed (by kernel_rfl) fun Z z => ?_
 have hwn := hw ((n % 10 : Nat) : Int) (by omega) (by omega)
 simp only [Int.natCast_emod, Int.cast_ofNat_Int] at hwn
 have htn : (48 + (n : Int) % 10).toNat = 48 + n % 10 := by omega
 simp [hdiv]
 repeat refine sg ?_
 refine RVdn_call (ih (n / 10) (by omega) (by omega)) ?_
 simp [hmod, hwn, htn]
 repeat refine sg ?_
 apply z
 refine AT_ret ?_
 simp [Tryz.f36]
 exact (decD_big2 (by omega)).symm

theorem c_ref01x_Local (n : Int) (h1 : n ≤ 9223372036854775807) : Valid Tryz.prog (G0 g rnd) 49 [.int .i64 n] (.str (locS n)) := by
 have hlen : n < 0 ∨ (decD n.toNat).length ≤ 19 := by
   rcases Int.lt_or_le n 0 with h | h
   · exact .inl h
   · exact .inr (decD_len 18 _ (pow19 (by omega)))
 refine valid_of [] Tryz.func49 rfl (by kernel_rfl) ?_
 refine sr fun Z z => ?_
 simp [Tryz.f49]
 apply z
 refine AT_seq_k fun K1 hK1 => ?_
 refine sr fun Z z => ?_
 simp
 apply z
 refine AT_cond (g := none) rfl (fun hb4 => ?_) (fun hb4 => ?_)
 simp at hb4
 refine sr fun Z z => ?_
 simp [hb4]
 apply z
 refine AT_ret ?_
 simp [Tryz.f49]
 (· simp [locS, hb4])
 simp at hb4
 refine AT_skip ?_
 refine hK1 _ ?_
 refine sr fun Z z => ?_
 simp
 refine RVn_call ((by have h := c_ref01x_Decimal g rnd n.toNat (by omega); rw [Int.toNat_of_nonneg (by omega)] at h; exact h)) ?_
 simp
 repeat refine sg ?_
 apply z
 refine AT_ret ?_
 simp [Tryz.f49]
 (· simp [locS, hb4])

theorem c_ref01x_Index (s : Str) (hs : s.length ≤ 1000000) : Valid Tryz.prog (G0 g rnd) 30 [.str s] (.int .i64 (locR s)) := by

 refine valid_of [] Tryz.func30 rfl (by kernel_rfl) ?_
 refine sr fun Z z => ?_
 simp [Tryz.f30]
 apply z
 refine sr fun Z z => ?_
 simp
 apply z
 refine AT_seq_k fun K1 hK1 => ?_
 rcases Nat.lt_or_ge s.length 2 with hl | hl
 have h1 : (s.length : Int) < 2 := by omega
 have hR : locR s = -1 := locR_short hl
 refine sr fun Z z => ?_
 simp [h1]
 repeat (refine ⟨by first | omega | exact List.ne_nil_of_length_pos hp0 | (simp at *; omega), ?_⟩)
 apply z
 refine cT (by simp) ?_
 refine sr fun Z z => ?_
 simp
 apply z
 refine AT_ret ?_
 simp [Tryz.f30]
 exact hR.symm
 have h1 : ¬ (s.length : Int) < 2 := by omega
 have hp0 : 0 < s.length := by omega
 rcases Nat.lt_or_ge 11 s.length with hl2 | hl2
 have h2 : (11 : Int) < s.length := by omega
 have hR : locR s = -1 := locR_long hl2
 refine sr fun Z z => ?_
 simp [h1, h2]
 repeat (refine ⟨by first | omega | exact List.ne_nil_of_length_pos hp0 | (simp at *; omega), ?_⟩)
 apply z
 refine cT (by simp) ?_
 refine sr fun Z z => ?_
 simp
 apply z
 refine AT_ret ?_
 simp [Tryz.f30]
 exact hR.symm
 have h2 : ¬ (11 : Int) < s.length := by omega
 by_cases hc : s[0] = 36
 have h3 : ((s[0].toNat : Int) != 36) = false := by rw [hc]; rfl
 have hsr : s = 36 :: s.tail := by cases s with
   | nil => simp at hp0
   | cons c r => simp at hc; simp [hc]
 have hrl : s.tail.length = s.length - 1 := by simp
 refine sr fun Z z => ?_
 simp [h1, h2, hp0, h3]
 repeat (refine ⟨by first | omega | exact List.ne_nil_of_length_pos hp0 | (simp at *; omega), ?_⟩)
 apply z
 refine cF (by simp) ?_
 refine AT_skip ?_
 refine hK1 _ ?_
 refine AT_seq_k fun K2 hK2 => ?_
 refine sr fun Z z => ?_
 simp
 apply z
 refine AT_block ?_
 refine AT_loop_q [0,3,4] [] (fun j st => ∃ k m, k ≤ s.tail.length ∧ s.tail.all digB = (s.tail.drop k).all digB ∧ valD 0 s.tail = valD m (s.tail.drop k) ∧ m < 10 ^ k ∧ j = s.tail.length - k ∧ st = { n := 46, tm := [(0, .v (.str s) none), (3, .v (.int .i64 (m : Nat)) none), (4, .v (.int .i64 (k + 1 : Nat)) none)], bx := [], tb := [], sh := [], hint := [] }) (s.tail.length) (by first | rfl | simp) ?_ ?_
 exact ⟨0, 0, by simp⟩
 rintro j st ⟨k, m, hk, hda2, hva, hm, rfl, rfl⟩ K3 hK3
 have hpw : (10 : Nat) ^ k ≤ 10 ^ 10 := Nat.pow_le_pow_right (by decide) (by omega)
 have h10 : (10 : Nat) ^ 10 = 10000000000 := by decide
 refine AT_seq_k fun K4 hK4 => ?_
 refine sr fun Z z => ?_
 have hkk : k + 1 ≤ s.length := by omega
 simp
 repeat (refine ⟨by first | omega | exact List.ne_nil_of_length_pos hp0 | (simp at *; omega), ?_⟩)
 apply z
 refine AT_cond (g := none) rfl (fun hb21 => ?_) (fun hb21 => ?_)
 simp at hb21
 refine AT_skip ?_
 refine hK4 _ ?_
 refine AT_seq_k fun K5 hK5 => ?_
 refine AT_block ?_
 refine AT_seq_k fun K6 hK6 => ?_
 have hk21 : k < s.tail.length := by omega
 have hk22 : k + 1 < s.length := by omega
 have hda := List.drop_eq_getElem_cons hk21
 obtain ⟨b, hb⟩ : ∃ b, s.tail[k] = b := ⟨_, rfl⟩
 have hget : s[k+1] = b := by rw [← hb]; simp
 rw [hb] at hda
 cases hdg : digB b
 have hcb : (clsI (b.toNat : Int) != 2) = true := by
   refine bne_iff_ne.2 (fun h => ?_)
   rw [(clsI_dig _).1 h] at hdg; cases hdg
 have hR : locR s = -1 := by rw [hsr]; exact locR_bad (by rw [hda2, hda, List.all_cons, hdg]; rfl)
 refine sr fun Z z => ?_
 simp [hb21, hk22, hget]
 repeat (refine ⟨by first | omega | exact List.ne_nil_of_length_pos hp0 | (simp at *; omega), ?_⟩)
 refine RVn_call (c_ref01x_Class g rnd _) ?_
 simp [hcb]
 repeat (refine ⟨by first | omega | exact List.ne_nil_of_length_pos hp0 | (simp at *; omega), ?_⟩)
 apply z
 refine cT (by simp) ?_
 refine sr fun Z z => ?_
 simp
 apply z
 refine AT_ret ?_
 simp [Tryz.f30]
 exact hR.symm
 have hcb : (clsI (b.toNat : Int) != 2) = false := by rw [(clsI_dig _).2 hdg]; rfl
 have hdr := hdg
 simp only [digB, Bool.and_eq_true, decide_eq_true_eq] at hdr
 obtain ⟨hdr1, hdr2⟩ := hdr
 have hwr : IntKind.i64.wrap ((b.toNat : Int) - 48) = (b.toNat : Int) - 48 := by rw [IntKind.wrap_i64]; omega
 have hst := stepD_int m hdr1 hdr2
 have hstl := step_lt (k := k) hdr1 hdr2 hm
 refine sr fun Z z => ?_
 simp [hb21, hk22, hget]
 repeat (refine ⟨by first | omega | exact List.ne_nil_of_length_pos hp0 | (simp at *; omega), ?_⟩)
 refine RVn_call (c_ref01x_Class g rnd _) ?_
 simp [hcb]
 repeat (refine ⟨by first | omega | exact List.ne_nil_of_length_pos hp0 | (simp at *; omega), ?_⟩)
 apply z
 refine cF (by simp) ?_
 refine AT_skip ?_
 refine hK6 _ ?_
 refine AT_region_q fun Z z => ?_
 simp [hb21, hk22, hget, hwr, hst]
 repeat (refine ⟨by first | omega | exact List.ne_nil_of_length_pos hp0 | (simp at *; omega), ?_⟩)
 apply z
 refine hK5 _ ?_
 refine AT_region_q fun Z z => ?_
 simp
 repeat (refine ⟨by first | omega | exact List.ne_nil_of_length_pos hp0 | (simp at *; omega), ?_⟩)
 apply z
 refine hK3 _ (by first | rfl | simp) (s.tail.length - (k+1)) (by omega) ?_
 refine ⟨k+1, stepD m b, by omega, ?_, ?_, hstl, by omega, by simp⟩
 · rw [hda2, hda, List.all_cons, hdg, Bool.true_and]
 · rw [hva, hda, valD_cons]
 simp at hb21
 refine AT_exit ?_
 refine hK2 _ ?_
 refine AT_seq_k fun K7 hK7 => ?_
 have hnil := List.drop_eq_nil_of_le (show s.tail.length ≤ k by omega)
 have hall : s.tail.all digB = true := by rw [hda2, hnil]; rfl
 have hval : valD 0 s.tail = m := by rw [hva, hnil]; rfl
 by_cases hmx : (2147483647 : Int) < m
 have hR : locR s = -1 := by rw [hsr]; exact locR_val (by rw [hval]; omega)
 refine sr fun Z z => ?_
 simp [hmx]
 repeat (refine ⟨by first | omega | exact List.ne_nil_of_length_pos hp0 | (simp at *; omega), ?_⟩)
 apply z
 refine cT (by simp) ?_
 refine sr fun Z z => ?_
 simp
 apply z
 refine AT_ret ?_
 simp [Tryz.f30]
 exact hR.symm
 by_cases hlo : locS (m : Nat) = s
 have hlb : (locS (m : Nat) == s) = true := by simpa using hlo
 have hsome := locOf_locS hlo (by rw [hsr]; simp) (by omega)
 have hR : locR s = m := by simp [locR, hsome.1]
 refine sr fun Z z => ?_
 simp [hmx]
 repeat (refine ⟨by first | omega | exact List.ne_nil_of_length_pos hp0 | (simp at *; omega), ?_⟩)
 refine RVn_call (c_ref01x_Local g rnd (m : Nat) (by omega)) ?_
 simp [hlb]
 repeat (refine ⟨by first | omega | exact List.ne_nil_of_length_pos hp0 | (simp at *; omega), ?_⟩)
 apply z
 refine cF (by simp) ?_
 refine AT_skip ?_
 refine hK7 _ ?_
 refine sr fun Z z => ?_
 simp
 apply z
 refine AT_ret ?_
 simp [Tryz.f30]
 exact hR.symm
 have hlb : (locS (m : Nat) == s) = false := by simpa using hlo
 have hR : locR s = -1 := by rw [hsr]; exact locR_no (by rw [hval, ← hsr]; exact hlo)
 refine sr fun Z z => ?_
 simp [hmx]
 repeat (refine ⟨by first | omega | exact List.ne_nil_of_length_pos hp0 | (simp at *; omega), ?_⟩)
 refine RVn_call (c_ref01x_Local g rnd (m : Nat) (by omega)) ?_
 simp [hlb]
 repeat (refine ⟨by first | omega | exact List.ne_nil_of_length_pos hp0 | (simp at *; omega), ?_⟩)
 apply z
 refine cT (by simp) ?_
 refine sr fun Z z => ?_
 simp
 apply z
 refine AT_ret ?_
 simp [Tryz.f30]
 exact hR.symm
 have h3 : ((s[0].toNat : Int) != 36) = true := by
   refine bne_iff_ne.2 (fun h => hc ?_)
   exact UInt8.toNat_inj.1 (by simpa using Int.ofNat.inj h)
 have hR : locR s = -1 := by cases s with
   | nil => simp at hp0
   | cons c r => simp at hc; simp [locR, locOf_none_head hc]
 refine sr fun Z z => ?_
 simp [h1, h2, hp0, h3]
 repeat (refine ⟨by first | omega | exact List.ne_nil_of_length_pos hp0 | (simp at *; omega), ?_⟩)
 apply z
 refine cT (by simp) ?_
 refine sr fun Z z => ?_
 simp
 apply z
 refine AT_ret ?_
 simp [Tryz.f30]
 exact hR.symm

end Go.Proofs.YtocmdbojefgpbaaGreatDoor
end

section
/- Library contracts. -/
set_option linter.all false
set_option maxHeartbeats 1000000
set_option maxRecDepth 10000
namespace Go.Proofs.YtocmdbojefgpbaaGreatDoor
open Go Go.Pv
variable (g : Nat → Option (List AV)) (rnd : Bool)

theorem c_strings_Join (l : List Str) (sep : Str) (hn : l.length ≤ 140737488355328) (hlen : (Lib.join l sep).length ≤ 140737488355328) : Valid Tryz.prog (G0 g rnd) 55 [.slice (l.map encS), .str sep] (.str (Lib.join l sep)) :=
  join_valid (by kernel_rfl) (fun a c sep w => Tryz.strings_Join_none a c sep w) (fun bk o c xs sep w h1 h2 h3 h4 h5 => Tryz.strings_Join bk o c xs sep w h1 h2 h3 h4 h5) l sep hn hlen

end Go.Proofs.YtocmdbojefgpbaaGreatDoor
end

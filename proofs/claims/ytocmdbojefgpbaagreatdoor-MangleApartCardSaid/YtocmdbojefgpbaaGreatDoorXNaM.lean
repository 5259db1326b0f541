import Derived.Test.YtocmdbojefgpbaaGreatDoorPt
import Derived.Test.YtocmdbojefgpbaaGreatDoorPvPa
import Derived.Test.YtocmdbojefgpbaaGreatDoorPvY
import Derived.Test.YtocmdbojefgpbaaGreatDoorXShelf
import Derived.Test.YtocmdbojefgpbaaGreatDoorXNaB
import Derived.Test.YtocmdbojefgpbaaGreatDoorXNaC
section
/- Contracts. -/
set_option linter.all false
set_option maxHeartbeats 1000000
set_option maxRecDepth 10000
namespace Go.Proofs.YtocmdbojefgpbaaGreatDoor
open Go Go.Pv
variable (g : Nat → Option (List AV)) (rnd : Bool)

theorem below_grown (w : World) (k : Nat) (os : Array Obj) : RowKit.Below w.heap.size w (Sort.grow (w.drewN k) os) :=
  ⟨rfl, rfl, rfl, by show w.heap.size ≤ (w.heap ++ os).size; rw [Array.size_append]; omega, fun j hj => by show (w.heap ++ os)[j]? = w.heap[j]?; rw [Array.getElem?_append_left hj]⟩

theorem c_strconv_Itoa (n : Int) (h0 : -9223372036854775808 ≤ n) (h1 : n ≤ 9223372036854775807) (htab : g 3 = some pow10A) : Valid Tryz.prog (G0 g rnd) 32 [.int .i64 n] (.str (Lib.itoa n)) := by
  refine valid_callsG (by kernel_rfl) fun lim w cargs hgl hargs => ?_
  obtain ⟨v, rfl⟩ : ∃ v, cargs = [v] := by
    have := hargs.1
    match cargs, this with
    | [v], _ => exact ⟨v, rfl⟩
  have hv := rep_int hargs.head
  subst hv
  refine (Any.strconv_Itoa Tryz.laysM171 n h0 h1 w (tab_of (by kernel_rfl) (by decide) (hgl 3 pow10A htab))).mono fun e w2 => ?_
  rintro ⟨rfl, k, os, rfl⟩
  exact ⟨_, rfl, below_grown w k os, fun _ _ => .str _⟩

theorem errCell {G : Nat} {T : Nat} {gl : Gl} {lim : Lim} {w : World} {x : AV} (h : gl.g G = some [.iface T x]) (hgl : GlOk gl lim w.heap) : ∃ v, w.cell? ⟨G, 0, none⟩ = some (.iface T v) := by
  obtain ⟨b, off, vs, hp, hv, hc⟩ := Rep.ro_iff.1 (hgl G _ h).1
  simp only [Value.pointer.injEq, Option.some.injEq, Addr.mk.injEq, and_true] at hp
  obtain ⟨rfl, rfl⟩ := hp
  obtain ⟨u, hu, hr⟩ := hv.get (j := 0) (x := .iface T x) rfl
  have h2 := (hc 0 u hu).2
  cases hr with
  | iface t v y hy => exact ⟨v, by rw [cell?_eq]; exact h2⟩

theorem c_strconv_Atoi (l : Str) (hl : l.length ≤ 281474976710656) (hers : ∃ x, g 1 = some [.iface 159 x]) (herr : ∃ x, g 2 = some [.iface 159 x]) : Valid Tryz.prog (G0 g rnd) 51 [.str l] (atoiAV 115 l) := by
  refine valid_callsG (by kernel_rfl) fun lim w cargs hgl hargs => ?_
  obtain ⟨v, rfl⟩ : ∃ v, cargs = [v] := by
    have := hargs.1
    match cargs, this with
    | [v], _ => exact ⟨v, rfl⟩
  have hv := rep_str hargs.head
  subst hv
  obtain ⟨xs, hxs⟩ := hers
  obtain ⟨xr, hxr⟩ := herr
  obtain ⟨vs, hvs⟩ := errCell hxs hgl
  obtain ⟨vr, hvr⟩ := errCell hxr hgl
  have hsz : (⟨l.toArray⟩ : ByteArray).size ≤ 281474976710656 := by simpa [ByteArray.size] using hl
  unfold atoiAV
  cases h : Lib.atoiAll l
  case ok v =>
    refine (Any.strconv_Atoi_ok Tryz.laysC172 ⟨l.toArray⟩ (by omega) v (by simpa using h) w).mono fun e w2 => ?_
    rintro ⟨rfl, hw⟩
    refine ⟨_, rfl, ?_, fun _ _ => Rep.tup_iff.2 ⟨_, rfl, .cons (.int _ _) (.cons .nilIface (.nil _ _))⟩⟩
    rcases hw with rfl | ⟨t, rfl⟩
    · exact RowKit.Below.refl _ _
    · exact Lib.bytesWorld_below w _ t
  case range =>
    refine (Any.strconv_Atoi_range Tryz.laysC172 ⟨l.toArray⟩ hsz (by simpa using h) _ w hvr (.inr ⟨_, _, rfl⟩)).mono fun e w2 => ?_
    rintro ⟨N, rfl, -, -, hb⟩
    exact ⟨_, rfl, hb, fun _ _ => Rep.tup_iff.2 ⟨_, rfl, .cons (.int _ _) (.cons (.iface _ _ _ (rep_any _ _ _ _)) (.nil _ _))⟩⟩
  · refine (Any.strconv_Atoi_syntax Tryz.laysC172 ⟨l.toArray⟩ hsz (by simpa using h) _ w hvs (.inr ⟨_, _, rfl⟩)).mono fun e w2 => ?_
    rintro ⟨N, rfl, -, -, hb⟩
    exact ⟨_, rfl, hb, fun _ _ => Rep.tup_iff.2 ⟨_, rfl, .cons (.int _ _) (.cons (.iface _ _ _ (rep_any _ _ _ _)) (.nil _ _))⟩⟩

theorem c_strings_CutPrefix (s p : Str) : Valid Tryz.prog (G0 g rnd) 50 [.str s, .str p] (.tup [.str (Lib.trimPrefix s p), .bool (Lib.hasPrefix s p)]) := by
  refine valid_callsG (by kernel_rfl) fun lim w cargs hgl hargs => ?_
  obtain ⟨v, u, rfl⟩ : ∃ v u, cargs = [v, u] := by
    have := hargs.1
    match cargs, this with
    | [v, u], _ => exact ⟨v, u, rfl⟩
  have hv := rep_str hargs.head
  have hu := rep_str hargs.tail.head
  subst hv; subst hu
  refine (Any.strings_CutPrefix Tryz.lays103 ⟨s.toArray⟩ ⟨p.toArray⟩ w).mono fun e w2 => ?_
  rintro ⟨rfl, rfl⟩
  exact ⟨_, rfl, RowKit.Below.refl _ _, fun _ _ => Rep.tup_iff.2 ⟨_, rfl, .cons (.str _) (.cons (.bool _) (.nil _ _))⟩⟩

end Go.Proofs.YtocmdbojefgpbaaGreatDoor
end

section
/- Contracts. -/
set_option linter.all false
set_option maxHeartbeats 1000000
set_option maxRecDepth 10000
namespace Go.Proofs.YtocmdbojefgpbaaGreatDoor
open Go Go.Pv
variable (g : Nat → Option (List AV)) (rnd : Bool)

theorem c_name_Local (n : Int) (h0 : -9223372036854775808 ≤ n) (h1 : n ≤ 9223372036854775807) (htab : g 3 = some pow10A) : Valid Tryz.prog (G0 g rnd) 52 [.int .i64 n] (.str (locS n)) := by
 have hlen : n < 0 ∨ (Lib.itoa n).length ≤ 19 := by
   rcases Int.lt_or_le n 0 with h | h
   · exact .inl h
   · exact .inr (itoa_len h h1)
 refine valid_of [] Tryz.func52 rfl (by kernel_rfl) ?_
 refine sr fun Z z => ?_
 simp [Tryz.f52]
 apply z
 refine AT_seq_k fun K1 hK1 => ?_
 refine sr fun Z z => ?_
 simp
 apply z
 refine AT_cond (g := none) rfl (fun hb4 => ?_) (fun hb4 => ?_)
 simp at hb4
 refine sr fun Z z => ?_
 simp [hb4]
 apply z
 refine AT_ret ?_
 simp [Tryz.f52]
 (· simp [locS, hb4])
 simp at hb4
 refine AT_skip ?_
 refine hK1 _ ?_
 refine sr fun Z z => ?_
 simp
 refine RVn_call (c_strconv_Itoa g rnd n h0 h1 htab) ?_
 simp
 repeat refine sg ?_
 apply z
 refine AT_ret ?_
 simp [Tryz.f52]
 (· rw [locS, if_neg (by omega), itoa_decD (by omega)])

theorem cutL (s : Str) : ∃ rest ok, Valid Tryz.prog (G0 g rnd) 50 [.str s, .str [36]] (.tup [.str rest, .bool ok]) ∧ (ok = true → s = 36 :: rest) ∧ (ok = false → rest = s ∧ locOf s = none) := by
  have h := c_strings_CutPrefix g rnd s [36]
  cases s with
  | nil => exact ⟨_, _, h, fun h => by simp [Lib.hasPrefix] at h, fun _ => ⟨rfl, rfl⟩⟩
  | cons c r =>
    by_cases hc : c = 36
    · subst hc
      exact ⟨_, _, h, fun _ => by simp [Lib.trimPrefix, Lib.hasPrefix], fun h => by simp [Lib.hasPrefix] at h⟩
    · have hb := hasPrefix_not (r := r) hc
      exact ⟨_, _, h, fun h => (by rw [hb] at h; cases h), fun _ => ⟨by simp [Lib.trimPrefix, hb], locOf_none_head hc⟩⟩

theorem c_name_Index (s : Str) (hs : s.length ≤ 1000000) (htab : g 3 = some pow10A) (hers : ∃ x, g 1 = some [.iface 159 x]) (herr : ∃ x, g 2 = some [.iface 159 x]) : Valid Tryz.prog (G0 g rnd) 31 [.str s] (.tup [.int .i64 (locI s), .bool (locOf s).isSome]) := by

 refine valid_of [] Tryz.func31 rfl (by kernel_rfl) ?_
 refine sr fun Z z => ?_
 simp [Tryz.f31]
 apply z
 obtain ⟨rest, ok, hcut, hok, hno⟩ := cutL g rnd s
 have hrl : rest.length ≤ 1000000 := by cases ok with
   | true => have := congrArg List.length (hok rfl); simp at this; omega
   | false => rw [(hno rfl).1]; exact hs
 have hat := c_strconv_Atoi g rnd rest (by omega) hers herr
 rcases atoiAV_cases 115 rest with ⟨v, hv, ha, hv1, hv2⟩ | ⟨hno2, v, ha⟩
 rw [ha] at hat
 cases ok
 have hnone := (hno rfl).2
 refine sr fun Z z => ?_
 simp
 refine RVn_call (hcut) ?_
 simp
 apply z
 refine sr fun Z z => ?_
 simp
 refine RVn_call (hat) ?_
 simp
 apply z
 refine AT_seq_k fun K1 hK1 => ?_
 refine sr fun Z z => ?_
 simp
 apply z
 refine cT (by simp) ?_
 refine sr fun Z z => ?_
 simp
 apply z
 refine AT_ret ?_
 simp [Tryz.f31]
 (· simp [locI, hnone])
 have hs36 := hok rfl
 by_cases hmx : 2147483647 < v
 have hnone : locOf s = none := by rw [hs36]; exact locOf_none_val hv (by omega)
 refine sr fun Z z => ?_
 simp
 refine RVn_call (hcut) ?_
 simp
 apply z
 refine sr fun Z z => ?_
 simp
 refine RVn_call (hat) ?_
 simp
 apply z
 refine AT_seq_k fun K2 hK2 => ?_
 refine sr fun Z z => ?_
 simp [hmx]
 apply z
 refine cT (by simp) ?_
 refine sr fun Z z => ?_
 simp
 apply z
 refine AT_ret ?_
 simp [Tryz.f31]
 (· simp [locI, hnone])
 by_cases hlo : locS v = s
 have hlb : (locS v == s) = true := by simpa using hlo
 have hsome := locOf_locS hlo (by rw [hs36]; simp) (by omega)
 refine sr fun Z z => ?_
 simp
 refine RVn_call (hcut) ?_
 simp
 apply z
 refine sr fun Z z => ?_
 simp
 refine RVn_call (hat) ?_
 simp
 apply z
 refine AT_seq_k fun K3 hK3 => ?_
 refine sr fun Z z => ?_
 simp [hmx]
 refine RVn_call (c_name_Local g rnd v (by omega) (by omega) htab) ?_
 simp [hlb]
 repeat refine sg ?_
 apply z
 refine cF (by simp) ?_
 refine AT_skip ?_
 refine hK3 _ ?_
 refine sr fun Z z => ?_
 simp
 apply z
 refine AT_ret ?_
 simp [Tryz.f31]
 (have h3 := Int.toNat_of_nonneg hsome.2
  simp [locI, hsome.1]; omega)
 have hlb : (locS v == s) = false := by simpa using hlo
 have hnone : locOf s = none := by rw [hs36]; exact locOf_none_val hv (fun h => hlo (by rw [hs36]; exact h.2))
 refine sr fun Z z => ?_
 simp
 refine RVn_call (hcut) ?_
 simp
 apply z
 refine sr fun Z z => ?_
 simp
 refine RVn_call (hat) ?_
 simp
 apply z
 refine AT_seq_k fun K4 hK4 => ?_
 refine sr fun Z z => ?_
 simp [hmx]
 refine RVn_call (c_name_Local g rnd v (by omega) (by omega) htab) ?_
 simp [hlb]
 repeat refine sg ?_
 apply z
 refine cT (by simp) ?_
 refine sr fun Z z => ?_
 simp
 apply z
 refine AT_ret ?_
 simp [Tryz.f31]
 (· simp [locI, hnone])
 rw [ha] at hat
 cases ok
 have hnone := (hno rfl).2
 refine sr fun Z z => ?_
 simp
 refine RVn_call (hcut) ?_
 simp
 apply z
 refine sr fun Z z => ?_
 simp
 refine RVn_call (hat) ?_
 simp
 apply z
 refine AT_seq_k fun K5 hK5 => ?_
 refine sr fun Z z => ?_
 simp
 apply z
 refine cT (by simp) ?_
 refine sr fun Z z => ?_
 simp
 apply z
 refine AT_ret ?_
 simp [Tryz.f31]
 (· simp [locI, hnone])
 have hnone : locOf s = none := by rw [hok rfl]; exact locOf_none_atoi hno2
 refine sr fun Z z => ?_
 simp
 refine RVn_call (hcut) ?_
 simp
 apply z
 refine sr fun Z z => ?_
 simp
 refine RVn_call (hat) ?_
 simp
 apply z
 refine AT_seq_k fun K6 hK6 => ?_
 refine sr fun Z z => ?_
 simp
 apply z
 refine cT (by simp) ?_
 refine sr fun Z z => ?_
 simp
 apply z
 refine AT_ret ?_
 simp [Tryz.f31]
 (· simp [locI, hnone])

end Go.Proofs.YtocmdbojefgpbaaGreatDoor
end

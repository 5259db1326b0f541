/- Contracts. -/
import Derived.Test.YtngpggbigjeehaaDoorPt
import Derived.Test.YtngpggbigjeehaaDoorPvLa
import Derived.Test.YtngpggbigjeehaaDoorPvX
import Derived.Test.YtngpggbigjeehaaDoorXShelf
import Derived.Test.YtngpggbigjeehaaDoorXNaA
import Derived.Test.YtngpggbigjeehaaDoorXNaB
import Derived.Test.YtngpggbigjeehaaDoorXNaC
set_option linter.all false
set_option maxHeartbeats 1000000
set_option maxRecDepth 10000
namespace Go.Proofs.YtngpggbigjeehaaDoor
open Go Go.Pv
variable (g : Nat → Option (List AV)) (rnd : Bool)

theorem below_grown (w : World) (k : Nat) (os : Array Obj) : RowKit.Below w.heap.size w (Sort.grow (w.drewN k) os) :=
  ⟨rfl, rfl, rfl, by show w.heap.size ≤ (w.heap ++ os).size; rw [Array.size_append]; omega, fun j hj => by show (w.heap ++ os)[j]? = w.heap[j]?; rw [Array.getElem?_append_left hj]⟩

theorem c_strconv_Itoa (n : Int) (h0 : -9223372036854775808 ≤ n) (h1 : n ≤ 9223372036854775807) (htab : g 3 = some pow10A) : Valid Tryd.prog (G0 g rnd) 23 [.int .i64 n] (.str (Lib.itoa n)) := by
  refine valid_callsG (by kernel_rfl) fun lim w cargs hgl hargs => ?_
  obtain ⟨v, rfl⟩ : ∃ v, cargs = [v] := by
    have := hargs.1
    match cargs, this with
    | [v], _ => exact ⟨v, rfl⟩
  have hv := rep_int hargs.head
  subst hv
  refine (Any.strconv_Itoa Tryd.laysM171 n h0 h1 w (tab_of (by kernel_rfl) (by decide) (hgl 3 pow10A htab))).mono fun e w2 => ?_
  rintro ⟨rfl, k, os, rfl⟩
  exact ⟨_, rfl, below_grown w k os, fun _ _ => .str _⟩

theorem errCell {G : Nat} {T : Nat} {gl : Gl} {lim : Lim} {w : World} {x : AV} (h : gl.g G = some [.iface T x]) (hgl : GlOk gl lim w.heap) : ∃ v, w.cell? ⟨G, 0, none⟩ = some (.iface T v) := by
  obtain ⟨b, off, vs, hp, hv, hc⟩ := Rep.ro_iff.1 (hgl G _ h).1
  simp only [Value.pointer.injEq, Option.some.injEq, Addr.mk.injEq, and_true] at hp
  obtain ⟨rfl, rfl⟩ := hp
  obtain ⟨u, hu, hr⟩ := hv.get (j := 0) (x := .iface T x) rfl
  have h2 := (hc 0 u hu).2
  cases hr with
  | iface t v y hy => exact ⟨v, by rw [cell?_eq]; exact h2⟩

theorem c_strconv_Atoi (l : Str) (hl : l.length ≤ 281474976710656) (hers : ∃ x, g 1 = some [.iface 78 x]) (herr : ∃ x, g 2 = some [.iface 78 x]) : Valid Tryd.prog (G0 g rnd) 25 [.str l] (atoiAV 54 l) := by
  refine valid_callsG (by kernel_rfl) fun lim w cargs hgl hargs => ?_
  obtain ⟨v, rfl⟩ : ∃ v, cargs = [v] := by
    have := hargs.1
    match cargs, this with
    | [v], _ => exact ⟨v, rfl⟩
  have hv := rep_str hargs.head
  subst hv
  obtain ⟨xs, hxs⟩ := hers
  obtain ⟨xr, hxr⟩ := herr
  obtain ⟨vs, hvs⟩ := errCell hxs hgl
  obtain ⟨vr, hvr⟩ := errCell hxr hgl
  have hsz : (⟨l.toArray⟩ : ByteArray).size ≤ 281474976710656 := by simpa [ByteArray.size] using hl
  unfold atoiAV
  cases h : Lib.atoiAll l
  case ok v =>
    refine (Any.strconv_Atoi_ok Tryd.laysC172 ⟨l.toArray⟩ (by omega) v (by simpa using h) w).mono fun e w2 => ?_
    rintro ⟨rfl, hw⟩
    refine ⟨_, rfl, ?_, fun _ _ => Rep.tup_iff.2 ⟨_, rfl, .cons (.int _ _) (.cons .nilIface (.nil _ _))⟩⟩
    rcases hw with rfl | ⟨t, rfl⟩
    · exact RowKit.Below.refl _ _
    · exact Lib.bytesWorld_below w _ t
  case range =>
    refine (Any.strconv_Atoi_range Tryd.laysC172 ⟨l.toArray⟩ hsz (by simpa using h) _ w hvr (.inr ⟨_, _, rfl⟩)).mono fun e w2 => ?_
    rintro ⟨N, rfl, -, -, hb⟩
    exact ⟨_, rfl, hb, fun _ _ => Rep.tup_iff.2 ⟨_, rfl, .cons (.int _ _) (.cons (.iface _ _ _ (rep_any _ _ _ _)) (.nil _ _))⟩⟩
  · refine (Any.strconv_Atoi_syntax Tryd.laysC172 ⟨l.toArray⟩ hsz (by simpa using h) _ w hvs (.inr ⟨_, _, rfl⟩)).mono fun e w2 => ?_
    rintro ⟨N, rfl, -, -, hb⟩
    exact ⟨_, rfl, hb, fun _ _ => Rep.tup_iff.2 ⟨_, rfl, .cons (.int _ _) (.cons (.iface _ _ _ (rep_any _ _ _ _)) (.nil _ _))⟩⟩

theorem c_strings_CutPrefix (s p : Str) : Valid Tryd.prog (G0 g rnd) 24 [.str s, .str p] (.tup [.str (Lib.trimPrefix s p), .bool (Lib.hasPrefix s p)]) := by
  refine valid_callsG (by kernel_rfl) fun lim w cargs hgl hargs => ?_
  obtain ⟨v, u, rfl⟩ : ∃ v u, cargs = [v, u] := by
    have := hargs.1
    match cargs, this with
    | [v, u], _ => exact ⟨v, u, rfl⟩
  have hv := rep_str hargs.head
  have hu := rep_str hargs.tail.head
  subst hv; subst hu
  refine (Any.strings_CutPrefix Tryd.lays103 ⟨s.toArray⟩ ⟨p.toArray⟩ w).mono fun e w2 => ?_
  rintro ⟨rfl, rfl⟩
  exact ⟨_, rfl, RowKit.Below.refl _ _, fun _ _ => Rep.tup_iff.2 ⟨_, rfl, .cons (.str _) (.cons (.bool _) (.nil _ _))⟩⟩

end Go.Proofs.YtngpggbigjeehaaDoor

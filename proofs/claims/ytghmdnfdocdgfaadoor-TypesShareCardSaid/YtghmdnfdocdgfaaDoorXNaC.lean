import Derived.Test.YtghmdnfdocdgfaaDoorPt
import Derived.Test.YtghmdnfdocdgfaaDoorPvPb
import Derived.Test.YtghmdnfdocdgfaaDoorPvY
import Derived.Test.YtghmdnfdocdgfaaDoorXShA
import Derived.Test.YtghmdnfdocdgfaaDoorXShelf
import Derived.Laws.CopyOwn
import Derived.Laws.MakeOwn
import Derived.Deep.RegionLaw
import Derived.Lib.SlBuf
import Derived.WalkKit
import Derived.Great.Walk
section
/- A type whose names are changed: only its own memory changes. -/
set_option linter.all false
set_option maxHeartbeats 1000000
set_option maxRecDepth 10000
namespace Go.Proofs.YtghmdnfdocdgfaaDoor
open Go Go.Pv
variable (g : Nat → Option (List AV)) (rnd : Bool)

open Go.RowKit
theorem chg_calls (lim : Lim) (ρ b0 : Nat) (h0 : Array Obj) : ∀ (t : Ty) (b off k : Nat) (w : World), (b = b0 ∨ lim b = .reg ρ) → NodeC lim h0 b off (encR 24 ρ t) → k + wt t ≤ 1000000 → Altd lim ρ b0 k h0 w.heap →
    Calls Tryd.prog 30 #[.pointer (some ⟨b, off, none⟩)] w fun e w' => ∃ v, e = .returned v ∧ (w'.os = w.os ∧ w'.tape = w.tape ∧ w'.output = w.output ∧ w.heap.size ≤ w'.heap.size) ∧ Altd lim ρ b0 (k + wt t) h0 w'.heap := by
  intro t
  induction t using Ty.ind with
  | h n ts p ih =>
  intro b off k w hb hn hk hm
  rw [encR_mk] at hn
  obtain ⟨hn1, s', hc, hsz⟩ := NodeC.str (j := 0) hm hn rfl
  rw [Nat.add_zero] at hn1 hc
  have hk2 : n.length + 1 + wts ts + k ≤ 1000000 := by simp only [wt] at hk; omega
  have hln := wts_len ts
  obtain ⟨sp, sc, hn2, hn3⟩ := NodeC.slOf (j := 1) hn rfl
  rw [List.length_map] at hn2 hn3
  have hfz := NodeC.thaw hm hn off
  have hlen : ¬ 9223372036854775807 < s'.size + 1 := by omega
  have hc1 := NodeC.slAt hm hn2
  go_enter Tryd.func30, Tryd.ntmps30
  go_wp2
  generalize hW : w.setCell ⟨b, off, none⟩ (.string (s' ++ ⟨#[120]⟩)) = W1
  have hW1 : Hid (Altd lim ρ b0 (k + 1) h0 W1.heap) := by
    rw [← hW]
    exact hm.store (by omega) hb hn1 (by simp only [ByteArray.size_append]; show s'.size + 1 ≤ n.length + (k + 1); omega)
  have hW2 : Hid (W1.os = w.os ∧ W1.tape = w.tape ∧ W1.output = w.output ∧ w.heap.size ≤ W1.heap.size) := by
    rw [← hW]
    exact ⟨rfl, rfl, rfl, by simp [World.setCell]⟩
  clear hW hc hc1 hfz
  go_wp2
  go_loopw [2] (fun i wr => ∃ m : Nat, m ≤ ts.length ∧ i = .int .i64 m ∧ Hid (Altd lim ρ b0 (k + 1 + wts (ts.take m)) h0 wr.heap) ∧ Hid (wr.os = w.os ∧ wr.tape = w.tape ∧ wr.output = w.output ∧ w.heap.size ≤ wr.heap.size))
    (fun i _ => ts.length - (intOf i).toNat)
  case atStart => exact ⟨0, Nat.zero_le _, rfl, hW1, hW2⟩
  case round =>
    obtain ⟨m, hmn, rfl, hal, hfr⟩ := hrel
    have hc2 := NodeC.slAt hal.out hn2
    rcases Nat.lt_or_ge m ts.length with hmt | hmt
    · obtain ⟨b', cap, he, h3, h4, hreg, hkid⟩ := hn3.kid (i := m) (r := encR 24 ρ ts[m]) (fun x hx => by obtain ⟨y, _, rfl⟩ := List.mem_map.1 hx; exact encR_len _ _ y) (by simp [hmt])
      rw [List.length_map] at he h3
      injection he with he1 _ he2
      subst he1; subst he2
      have hwm : wts (ts.take (m + 1)) = wts (ts.take m) + wt ts[m] := by rw [List.take_add_one, List.getElem?_eq_getElem hmt, wts_app]; simp [wts]
      have hwl := wts_take ts (m + 1)
      go_wp2_with (first | (go_at_call 30; refine (ih ts[m] (by simp) b' (m * 3) (k + 1 + wts (ts.take m)) _ (.inr hreg) hkid (by omega) hal.out).mono ?_; rintro e w' ⟨v, rfl, hf2, hal2⟩))
      refine ⟨⟨m + 1, by omega, by simp, ?_, ?_⟩, by simp only [intOf]; omega⟩
      · rw [hwm, ← Nat.add_assoc]; exact hal2
      · exact ⟨hf2.1.trans hfr.out.1, hf2.2.1.trans hfr.out.2.1, hf2.2.2.1.trans hfr.out.2.2.1, Nat.le_trans hfr.out.2.2.2 hf2.2.2.2⟩
    · have hwl := wts_take ts m
      go_wp2
      refine Go.Great.bodyPost_end0 rfl rfl ?_
      exact ⟨_, rfl, hfr.out, hal.out.mono (by simp only [wt]; omega)⟩
theorem chg_validW (ρ b0 : Nat) (t : Ty) (ht : wt t ≤ 500000) : ValidW Tryd.prog 30 [.gp b0 0] b0 ρ (encR 24 ρ t) := by
  refine ⟨by kernel_rfl, fun lim w cargs hargs hbox => ?_⟩
  obtain ⟨v, rfl⟩ : ∃ v, cargs = [v] := by
    have := hargs.1
    match cargs, this with
    | [v], _ => exact ⟨v, rfl⟩
  have hv := hargs.head
  cases hv
  refine (chg_calls lim ρ b0 w.heap t b0 0 0 w (.inl rfl) (NodeC.of_box hbox) (by omega) (Altd.refl _ _ _ _ _)).mono fun e w' => ?_
  rintro ⟨v, rfl, hf, hal⟩
  exact ⟨v, rfl, hf, hal.validW.1, hal.validW.2⟩

end Go.Proofs.YtghmdnfdocdgfaaDoor
end

section
/- Contracts. -/
set_option linter.all false
set_option maxHeartbeats 1000000
set_option maxRecDepth 10000
namespace Go.Proofs.YtghmdnfdocdgfaaDoor
open Go Go.Pv
variable (g : Nat → Option (List AV)) (rnd : Bool)

theorem c_cmp_isNaN_string (s : Str) : Valid Tryd.prog (G0 g rnd) 54 [.str s] (.bool false) := by

 refine valid_of [] Tryd.func54 rfl (by kernel_rfl) ?_
 refine sr fun Z z => ?_
 simp [Tryd.f54]
 refine z _ ?_
 clear z Z
 refine sr fun Z z => ?_
 simp
 refine z _ ?_
 clear z Z
 refine AT_ret ?_
 simp [Tryd.f54]

theorem c_cmp_Compare_string (a b : Str) : Valid Tryd.prog (G0 g rnd) 42 [.str a, .str b] (.int .i64 (cmpS a b)) := by

 refine valid_of [] Tryd.func42 rfl (by kernel_rfl) ?_
 refine sr fun Z z => ?_
 simp [Tryd.f42]
 refine z _ ?_
 clear z Z
 refine sr fun Z z => ?_
 simp
 refine RVn_call (c_cmp_isNaN_string g rnd _) ?_
 simp
 refine z _ ?_
 clear z Z
 refine sr fun Z z => ?_
 simp
 refine RVn_call (c_cmp_isNaN_string g rnd _) ?_
 simp
 refine z _ ?_
 clear z Z
 refine AT_seq_k fun K1 hK1 => ?_
 refine sr fun Z z => ?_
 simp
 refine z _ ?_
 clear z Z
 refine cF (by simp) ?_
 refine AT_skip ?_
 refine hK1 _ ?_
 refine AT_seq_k fun K2 hK2 => ?_
 refine sr fun Z z => ?_
 simp
 refine z _ ?_
 clear z Z
 refine cF (by simp) ?_
 refine AT_skip ?_
 refine hK2 _ ?_
 refine AT_seq_k fun K3 hK3 => ?_
 refine sr fun Z z => ?_
 simp
 refine z _ ?_
 clear z Z
 refine AT_cond (g := none) rfl (fun hb16 => ?_) (fun hb16 => ?_)
 refine sr fun Z z => ?_
 simp [hb16]
 refine z _ ?_
 clear z Z
 refine AT_ret ?_
 simp [Tryd.f42]
 unfold cmpS; cases hh : Op.bytesLess a b <;> by_cases he : a = b <;> simp_all
 refine AT_skip ?_
 refine hK3 _ ?_
 refine AT_seq_k fun K4 hK4 => ?_
 refine sr fun Z z => ?_
 simp [hb16]
 refine z _ ?_
 clear z Z
 refine AT_cond (g := none) rfl (fun hb19 => ?_) (fun hb19 => ?_)
 simp [hb16] at hb19
 refine sr fun Z z => ?_
 simp [hb16, hb19]
 refine z _ ?_
 clear z Z
 refine AT_ret ?_
 simp [Tryd.f42]
 unfold cmpS; cases hh : Op.bytesLess a b <;> by_cases he : a = b <;> simp_all
 simp [hb16] at hb19
 refine AT_skip ?_
 refine hK4 _ ?_
 refine sr fun Z z => ?_
 simp [hb16, hb19]
 refine z _ ?_
 clear z Z
 refine AT_ret ?_
 simp [Tryd.f42]
 unfold cmpS; cases hh : Op.bytesLess a b <;> by_cases he : a = b <;> simp_all

theorem c_name_Compare (a b : Str) : Valid Tryd.prog (G0 g rnd) 33 [.str a, .str b] (.int .i64 (cmpS a b)) := by

 refine valid_of [] Tryd.func33 rfl (by kernel_rfl) ?_
 refine sr fun Z z => ?_
 simp [Tryd.f33]
 refine z _ ?_
 clear z Z
 refine sr fun Z z => ?_
 simp
 refine RVn_call (c_cmp_Compare_string g rnd _ _) ?_
 simp
 refine z _ ?_
 clear z Z
 refine AT_ret ?_
 simp [Tryd.f33]

end Go.Proofs.YtghmdnfdocdgfaaDoor
end

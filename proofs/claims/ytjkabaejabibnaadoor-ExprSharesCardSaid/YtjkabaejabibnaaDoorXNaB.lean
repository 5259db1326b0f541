import Derived.Test.YtjkabaejabibnaaDoorPt
import Derived.Test.YtjkabaejabibnaaDoorPvPb
import Derived.Test.YtjkabaejabibnaaDoorPvY
import Derived.Test.YtjkabaejabibnaaDoorXSeA
import Derived.Test.YtjkabaejabibnaaDoorXShelf
import Derived.Laws.CopyOwn
import Derived.Laws.MakeOwn
import Derived.Deep.RegionLaw
import Derived.Lib.SlBuf
import Derived.WalkKit
import Derived.Great.Walk
import Derived.Test.YtjkabaejabibnaaDoorXTyI
section
/- An expression whose names are changed: only its own memory changes. -/
set_option linter.all false
set_option maxHeartbeats 1000000
set_option maxRecDepth 10000
namespace Go.Proofs.YtjkabaejabibnaaDoor
open Go Go.Pv
variable (g : Nat → Option (List AV)) (rnd : Bool)

open Go.RowKit
theorem che_calls (lim : Lim) (ρ b0 : Nat) (h0 : Array Obj) : ∀ (e : Exp) (b off k : Nat) (w : World), (b = b0 ∨ lim b = .reg ρ) → NodeC lim h0 b off (encER 24 27 ρ e) → 7 ≤ k → k + wtE e ≤ 1000000 → Altd lim ρ b0 k h0 w.heap →
    Calls Tryd.prog 29 #[.pointer (some ⟨b, off, none⟩)] w fun e2 w' => ∃ v, e2 = .returned v ∧ (w'.os = w.os ∧ w'.tape = w.tape ∧ w'.output = w.output ∧ w.heap.size ≤ w'.heap.size) ∧ Altd lim ρ b0 (k + wtE e) h0 w'.heap := by
  intro e
  induction e using Exp.ind with
  | h kd n t ta l p ih =>
  intro b off k w hb hn h7 hk hm
  obtain ⟨tn, tz, tq⟩ := t
  rw [encER_mk] at hn
  simp only [Ty.args, Ty.name, Ty.pos] at hn
  obtain ⟨hn1, s', hc, hsz⟩ := NodeC.str (j := 1) hm hn rfl
  have hk2 : n.length + 1 + wt (.mk tn tz tq) + wts ta + wtEs l + k ≤ 1000000 := by rw [wtE_mk] at hk; omega
  have hln := wtEs_len l
  have hla := wts_len ta
  have htt : tz.length ≤ wt (.mk tn tz tq) := by have := wts_len tz; simp only [wt]; omega
  obtain ⟨tp, tc, hn3, hr3⟩ := NodeC.slOf (j := 3) hn rfl
  obtain ⟨ap, ac, hn5, hr5⟩ := NodeC.slOf (j := 5) hn rfl
  obtain ⟨lp, lc, hn6, hr6⟩ := NodeC.slOf (j := 6) hn rfl
  rw [List.length_map] at hn3 hr3 hn5 hr5 hn6 hr6
  have hfz := NodeC.thaw hm hn (off + 1)
  have hlen : ¬ 9223372036854775807 < s'.size + 1 := by omega
  go_enter Tryd.func29, Tryd.ntmps29
  go_wp2
  generalize hW : w.setCell ⟨b, off + 1, none⟩ (.string (s' ++ ⟨#[120]⟩)) = W1
  have hW1 : Hid (Altd lim ρ b0 (k + 1) h0 W1.heap) := by
    rw [← hW]
    exact hm.store (by omega) hb hn1 (by simp only [ByteArray.size_append]; show s'.size + 1 ≤ n.length + (k + 1); omega)
  have hW2 : Hid (W1.os = w.os ∧ W1.tape = w.tape ∧ W1.output = w.output ∧ w.heap.size ≤ W1.heap.size) := by
    rw [← hW]
    exact ⟨rfl, rfl, rfl, by simp [World.setCell]⟩
  clear hW hc hfz
  go_wp2
  go_loopw [2] (fun i wr => ∃ m : Nat, m ≤ ta.length ∧ i = .int .i64 m ∧ Hid (Altd lim ρ b0 (k + 1) h0 wr.heap) ∧ Hid (wr.os = w.os ∧ wr.tape = w.tape ∧ wr.output = w.output ∧ w.heap.size ≤ wr.heap.size))
    (fun i _ => ta.length - (intOf i).toNat)
  case atStart => exact ⟨0, Nat.zero_le _, rfl, hW1, hW2⟩
  case round =>
    obtain ⟨m1, hmn1, rfl, hal1, hfr1⟩ := hrel
    have hc1 := NodeC.slAt hal1.out hn5
    rcases Nat.lt_or_ge m1 ta.length with hmt | hmt
    · obtain ⟨b', cap, he, h3, h4, hreg, hkid⟩ := hr5.kid (i := m1) (r := encR 24 ρ ta[m1]) (fun x hx => by obtain ⟨y, _, rfl⟩ := List.mem_map.1 hx; exact encR_len _ _ y) (by rw [List.getElem?_map, List.getElem?_eq_getElem hmt]; rfl)
      rw [List.length_map] at he h3
      injection he with he1 _ he2
      subst he1; subst he2
      obtain ⟨hs1, s1, hs2, hs3⟩ := NodeC.str (j := 0) hal1.out hkid (encR_0 _ _ _)
      rw [Nat.add_zero] at hs1 hs2
      have hfz := NodeC.thaw hal1.out hkid (m1 * 3)
      go_wp2
      refine ⟨⟨m1 + 1, by omega, by simp, hal1.out.store (Nat.le_refl _) (.inr hreg) hs1 (by show 7 ≤ _; omega), hfr1.out.1, hfr1.out.2.1, hfr1.out.2.2.1, by simp only [World.setCell, Array.size_modify]; exact hfr1.out.2.2.2⟩, by simp only [intOf]; omega⟩
    · go_wp2
      go_loopw [3] (fun i wr => ∃ m : Nat, m ≤ tz.length ∧ i = .int .i64 m ∧ Hid (Altd lim ρ b0 (k + 1) h0 wr.heap) ∧ Hid (wr.os = w.os ∧ wr.tape = w.tape ∧ wr.output = w.output ∧ w.heap.size ≤ wr.heap.size))
        (fun i _ => tz.length - (intOf i).toNat)
      case atStart => exact ⟨0, Nat.zero_le _, rfl, hal1, hfr1⟩
      case round =>
        obtain ⟨m2, hmn2, rfl, hal2, hfr2⟩ := hrel
        have hc2 := NodeC.slAt hal2.out hn3
        rw [show off + 3 = off + 2 + 1 from rfl] at hc2
        rcases Nat.lt_or_ge m2 tz.length with hmt | hmt
        · obtain ⟨b', cap, he, h3, h4, hreg, hkid⟩ := hr3.kid (i := m2) (r := encR 24 ρ tz[m2]) (fun x hx => by obtain ⟨y, _, rfl⟩ := List.mem_map.1 hx; exact encR_len _ _ y) (by rw [List.getElem?_map, List.getElem?_eq_getElem hmt]; rfl)
          rw [List.length_map] at he h3
          injection he with he1 _ he2
          subst he1; subst he2
          obtain ⟨hs1, s1, hs2, hs3⟩ := NodeC.str (j := 0) hal2.out hkid (encR_0 _ _ _)
          rw [Nat.add_zero] at hs1 hs2
          have hfz := NodeC.thaw hal2.out hkid (m2 * 3)
          go_wp2
          refine ⟨⟨m2 + 1, by omega, by simp, hal2.out.store (Nat.le_refl _) (.inr hreg) hs1 (by show 7 ≤ _; omega), hfr2.out.1, hfr2.out.2.1, hfr2.out.2.2.1, by simp only [World.setCell, Array.size_modify]; exact hfr2.out.2.2.2⟩, by simp only [intOf]; omega⟩
        · go_wp2
          go_loopw [4] (fun i wr => ∃ m : Nat, m ≤ l.length ∧ i = .int .i64 m ∧ Hid (Altd lim ρ b0 (k + 1 + wtEs (l.take m)) h0 wr.heap) ∧ Hid (wr.os = w.os ∧ wr.tape = w.tape ∧ wr.output = w.output ∧ w.heap.size ≤ wr.heap.size))
            (fun i _ => l.length - (intOf i).toNat)
          case atStart => exact ⟨0, Nat.zero_le _, rfl, hal2, hfr2⟩
          case round =>
            obtain ⟨m, hmn, rfl, hal, hfr⟩ := hrel
            have hc6 := NodeC.slAt hal.out hn6
            rcases Nat.lt_or_ge m l.length with hmt | hmt
            · obtain ⟨b', cap, he, h3, h4, hreg, hkid⟩ := hr6.kid (i := m) (r := encER 24 27 ρ l[m]) (fun x hx => by obtain ⟨y, _, rfl⟩ := List.mem_map.1 hx; exact encER_len _ _ _ y) (by rw [List.getElem?_map, List.getElem?_eq_getElem hmt]; rfl)
              rw [List.length_map] at he h3
              injection he with he1 _ he2
              subst he1; subst he2
              have hwm : wtEs (l.take (m + 1)) = wtEs (l.take m) + wtE l[m] := by rw [List.take_add_one, List.getElem?_eq_getElem hmt, wtEs_app]; simp [wtEs]
              have hwl : wtEs (l.take (m + 1)) ≤ wtEs l := by have := wtEs_app (l.take (m + 1)) (l.drop (m + 1)); rw [List.take_append_drop] at this; omega
              go_wp2_with (first | (go_at_call 29; refine (ih l[m] (by simp) b' (m * 8) (k + 1 + wtEs (l.take m)) _ (.inr hreg) hkid (by omega) (by omega) hal.out).mono ?_; rintro e w' ⟨v, rfl, hf2, hal3⟩))
              all_goals go_roundw
              case measure => simp [intOf]; omega
              refine ⟨.int .i64 ((m : Int) + 1), _, _, _, _, _, _, _, _, _, _, _, _, _, _, _, _, ⟨m + 1, by omega, by simp, ?_, ?_⟩, by simp; exact ⟨by omega, by omega, rfl, rfl, rfl, rfl, rfl, rfl, rfl, rfl, rfl, rfl, rfl, rfl, rfl, rfl, rfl, rfl⟩⟩
              · rw [hwm, ← Nat.add_assoc]; exact hal3
              · exact ⟨hf2.1.trans hfr.out.1, hf2.2.1.trans hfr.out.2.1, hf2.2.2.1.trans hfr.out.2.2.1, Nat.le_trans hfr.out.2.2.2 hf2.2.2.2⟩
            · have hwl : wtEs (l.take m) ≤ wtEs l := by have := wtEs_app (l.take m) (l.drop m); rw [List.take_append_drop] at this; omega
              go_wp2
              refine Go.Great.bodyPost_end0 rfl rfl ?_
              exact ⟨_, rfl, hfr.out, hal.out.mono (by rw [wtE_mk]; omega)⟩
theorem che_validW (ρ b0 : Nat) (e : Exp) (he : wtE e ≤ 500000) : ValidW Tryd.prog 29 [.gp b0 0] b0 ρ (encER 24 27 ρ e) := by
  refine ⟨by kernel_rfl, fun lim w cargs hargs hbox => ?_⟩
  obtain ⟨v, rfl⟩ : ∃ v, cargs = [v] := by
    have := hargs.1
    match cargs, this with
    | [v], _ => exact ⟨v, rfl⟩
  have hv := hargs.head
  cases hv
  refine (che_calls lim ρ b0 w.heap e b0 0 7 w (.inl rfl) (NodeC.of_box hbox) (Nat.le_refl _) (by omega) (Altd.refl _ _ _ _ _)).mono fun e w' => ?_
  rintro ⟨v, rfl, hf, hal⟩
  exact ⟨v, rfl, hf, hal.validW.1, hal.validW.2⟩

end Go.Proofs.YtjkabaejabibnaaDoor
end

section
/- Contracts. -/
set_option linter.all false
set_option maxHeartbeats 1000000
set_option maxRecDepth 10000
namespace Go.Proofs.YtjkabaejabibnaaDoor
open Go Go.Pv
variable (g : Nat → Option (List AV)) (rnd : Bool)

theorem c_name_Class (n : Int) : Valid Tryd.prog (G0 g rnd) 75 [.int .u8 n] (.int .i64 (clsI n)) := by

 refine valid_of [] Tryd.func75 rfl (by kernel_rfl) ?_
 rcases cls_cases n with hc | hc | hc | hc | hc | hc | hc | hc | hc | hc | hc | hc
 have f0 : 97 ≤ n := by omega
 have f1 : n ≤ 122 := by omega
 have f2 : 65 ≤ n := by omega
 have f3 : ¬ n ≤ 90 := by omega
 have f4 : 48 ≤ n := by omega
 have f5 : ¬ n ≤ 57 := by omega
 have e0 : (n == 95) = false := by simp; omega
 have e1 : (n == 9) = false := by simp; omega
 have e2 : (n == 10) = false := by simp; omega
 have e3 : (n == 13) = false := by simp; omega
 have e4 : (n == 32) = false := by simp; omega
 refine sr fun Z z => ?_
 simp [Tryd.f75, f0, f1, f2, f3, f4, f5, e0, e1, e2, e3, e4]
 refine z _ ?_
 clear z Z
 refine AT_seq_k fun K1 hK1 => ?_
 refine AT_block ?_
 refine AT_seq_k fun K2 hK2 => ?_
 refine sr fun Z z => ?_
 simp [f0, f1, f2, f3, f4, f5, e0, e1, e2, e3, e4]
 refine z _ ?_
 clear z Z
 refine cT (by simp [f0, f1, f2, f3, f4, f5, e0, e1, e2, e3, e4]) ?_
 refine AT_skip ?_
 refine hK2 _ ?_
 refine cT (by simp [f0, f1, f2, f3, f4, f5, e0, e1, e2, e3, e4]) ?_
 refine sr fun Z z => ?_
 simp [f0, f1, f2, f3, f4, f5, e0, e1, e2, e3, e4]
 refine z _ ?_
 clear z Z
 refine AT_ret ?_
 simp [Tryd.f75]
 first | (· unfold clsI; repeat (first | omega | split)) | decide
 have f0 : ¬ 97 ≤ n := by omega
 have f1 : n ≤ 122 := by omega
 have f2 : 65 ≤ n := by omega
 have f3 : n ≤ 90 := by omega
 have f4 : 48 ≤ n := by omega
 have f5 : ¬ n ≤ 57 := by omega
 have e0 : (n == 95) = false := by simp; omega
 have e1 : (n == 9) = false := by simp; omega
 have e2 : (n == 10) = false := by simp; omega
 have e3 : (n == 13) = false := by simp; omega
 have e4 : (n == 32) = false := by simp; omega
 refine sr fun Z z => ?_
 simp [f0, f1, f2, f3, f4, f5, e0, e1, e2, e3, e4]
 refine z _ ?_
 clear z Z
 refine AT_seq_k fun K3 hK3 => ?_
 refine AT_block ?_
 refine AT_seq_k fun K4 hK4 => ?_
 refine sr fun Z z => ?_
 simp [f0, f1, f2, f3, f4, f5, e0, e1, e2, e3, e4]
 refine z _ ?_
 clear z Z
 refine cF (by simp [f0, f1, f2, f3, f4, f5, e0, e1, e2, e3, e4]) ?_
 refine AT_region_q fun Z z => ?_
 simp [f0, f1, f2, f3, f4, f5, e0, e1, e2, e3, e4]
 refine z _ ?_
 clear z Z
 refine hK4 _ ?_
 refine cT (by simp [f0, f1, f2, f3, f4, f5, e0, e1, e2, e3, e4]) ?_
 refine sr fun Z z => ?_
 simp [f0, f1, f2, f3, f4, f5, e0, e1, e2, e3, e4]
 refine z _ ?_
 clear z Z
 refine AT_ret ?_
 simp [Tryd.f75]
 first | (· unfold clsI; repeat (first | omega | split)) | decide
 have f0 : ¬ 97 ≤ n := by omega
 have f1 : n ≤ 122 := by omega
 have f2 : ¬ 65 ≤ n := by omega
 have f3 : n ≤ 90 := by omega
 have f4 : 48 ≤ n := by omega
 have f5 : n ≤ 57 := by omega
 have e0 : (n == 95) = false := by simp; omega
 have e1 : (n == 9) = false := by simp; omega
 have e2 : (n == 10) = false := by simp; omega
 have e3 : (n == 13) = false := by simp; omega
 have e4 : (n == 32) = false := by simp; omega
 refine sr fun Z z => ?_
 simp [f0, f1, f2, f3, f4, f5, e0, e1, e2, e3, e4]
 refine z _ ?_
 clear z Z
 refine AT_seq_k fun K5 hK5 => ?_
 refine AT_block ?_
 refine AT_seq_k fun K6 hK6 => ?_
 refine sr fun Z z => ?_
 simp [f0, f1, f2, f3, f4, f5, e0, e1, e2, e3, e4]
 refine z _ ?_
 clear z Z
 refine cF (by simp [f0, f1, f2, f3, f4, f5, e0, e1, e2, e3, e4]) ?_
 refine AT_region_q fun Z z => ?_
 simp [f0, f1, f2, f3, f4, f5, e0, e1, e2, e3, e4]
 refine z _ ?_
 clear z Z
 refine hK6 _ ?_
 refine cF (by simp [f0, f1, f2, f3, f4, f5, e0, e1, e2, e3, e4]) ?_
 refine sr fun Z z => ?_
 simp [f0, f1, f2, f3, f4, f5, e0, e1, e2, e3, e4]
 refine z _ ?_
 clear z Z
 refine cT (by simp [f0, f1, f2, f3, f4, f5, e0, e1, e2, e3, e4]) ?_
 refine sr fun Z z => ?_
 simp [f0, f1, f2, f3, f4, f5, e0, e1, e2, e3, e4]
 refine z _ ?_
 clear z Z
 refine AT_ret ?_
 simp [Tryd.f75]
 first | (· unfold clsI; repeat (first | omega | split)) | decide
 subst hc
 refine sr fun Z z => ?_
 simp
 refine z _ ?_
 clear z Z
 refine AT_seq_k fun K7 hK7 => ?_
 refine AT_block ?_
 refine AT_seq_k fun K8 hK8 => ?_
 refine sr fun Z z => ?_
 simp
 refine z _ ?_
 clear z Z
 refine cF (by simp) ?_
 refine AT_region_q fun Z z => ?_
 simp
 refine z _ ?_
 clear z Z
 refine hK8 _ ?_
 refine cF (by simp) ?_
 refine sr fun Z z => ?_
 simp
 refine z _ ?_
 clear z Z
 refine cF (by simp) ?_
 refine sr fun Z z => ?_
 simp
 refine z _ ?_
 clear z Z
 refine cT (by simp) ?_
 refine sr fun Z z => ?_
 simp
 refine z _ ?_
 clear z Z
 refine AT_ret ?_
 simp [Tryd.f75]
 first | (· unfold clsI; repeat (first | omega | split)) | decide
 subst hc
 refine sr fun Z z => ?_
 simp
 refine z _ ?_
 clear z Z
 refine AT_seq_k fun K9 hK9 => ?_
 refine AT_block ?_
 refine AT_seq_k fun K10 hK10 => ?_
 refine sr fun Z z => ?_
 simp
 refine z _ ?_
 clear z Z
 refine cF (by simp) ?_
 refine AT_region_q fun Z z => ?_
 simp
 refine z _ ?_
 clear z Z
 refine hK10 _ ?_
 refine cF (by simp) ?_
 refine sr fun Z z => ?_
 simp
 refine z _ ?_
 clear z Z
 refine cF (by simp) ?_
 refine sr fun Z z => ?_
 simp
 refine z _ ?_
 clear z Z
 refine cF (by simp) ?_
 refine AT_seq_k fun K11 hK11 => ?_
 refine sr fun Z z => ?_
 simp
 refine z _ ?_
 clear z Z
 refine cT (by simp) ?_
 refine AT_skip ?_
 refine hK11 _ ?_
 refine cT (by simp) ?_
 refine sr fun Z z => ?_
 simp
 refine z _ ?_
 clear z Z
 refine AT_ret ?_
 simp [Tryd.f75]
 first | (· unfold clsI; repeat (first | omega | split)) | decide
 subst hc
 refine sr fun Z z => ?_
 simp
 refine z _ ?_
 clear z Z
 refine AT_seq_k fun K12 hK12 => ?_
 refine AT_block ?_
 refine AT_seq_k fun K13 hK13 => ?_
 refine sr fun Z z => ?_
 simp
 refine z _ ?_
 clear z Z
 refine cF (by simp) ?_
 refine AT_region_q fun Z z => ?_
 simp
 refine z _ ?_
 clear z Z
 refine hK13 _ ?_
 refine cF (by simp) ?_
 refine sr fun Z z => ?_
 simp
 refine z _ ?_
 clear z Z
 refine cF (by simp) ?_
 refine sr fun Z z => ?_
 simp
 refine z _ ?_
 clear z Z
 refine cF (by simp) ?_
 refine AT_seq_k fun K14 hK14 => ?_
 refine sr fun Z z => ?_
 simp
 refine z _ ?_
 clear z Z
 refine cF (by simp) ?_
 refine sr fun Z z => ?_
 simp
 refine z _ ?_
 clear z Z
 refine cT (by simp) ?_
 refine AT_skip ?_
 refine hK14 _ ?_
 refine cT (by simp) ?_
 refine sr fun Z z => ?_
 simp
 refine z _ ?_
 clear z Z
 refine AT_ret ?_
 simp [Tryd.f75]
 first | (· unfold clsI; repeat (first | omega | split)) | decide
 subst hc
 refine sr fun Z z => ?_
 simp
 refine z _ ?_
 clear z Z
 refine AT_seq_k fun K15 hK15 => ?_
 refine AT_block ?_
 refine AT_seq_k fun K16 hK16 => ?_
 refine sr fun Z z => ?_
 simp
 refine z _ ?_
 clear z Z
 refine cF (by simp) ?_
 refine AT_region_q fun Z z => ?_
 simp
 refine z _ ?_
 clear z Z
 refine hK16 _ ?_
 refine cF (by simp) ?_
 refine sr fun Z z => ?_
 simp
 refine z _ ?_
 clear z Z
 refine cF (by simp) ?_
 refine sr fun Z z => ?_
 simp
 refine z _ ?_
 clear z Z
 refine cF (by simp) ?_
 refine AT_seq_k fun K17 hK17 => ?_
 refine sr fun Z z => ?_
 simp
 refine z _ ?_
 clear z Z
 refine cF (by simp) ?_
 refine sr fun Z z => ?_
 simp
 refine z _ ?_
 clear z Z
 refine cF (by simp) ?_
 refine sr fun Z z => ?_
 simp
 refine z _ ?_
 clear z Z
 refine cT (by simp) ?_
 refine AT_skip ?_
 refine hK17 _ ?_
 refine cT (by simp) ?_
 refine sr fun Z z => ?_
 simp
 refine z _ ?_
 clear z Z
 refine AT_ret ?_
 simp [Tryd.f75]
 first | (· unfold clsI; repeat (first | omega | split)) | decide
 subst hc
 refine sr fun Z z => ?_
 simp
 refine z _ ?_
 clear z Z
 refine AT_seq_k fun K18 hK18 => ?_
 refine AT_block ?_
 refine AT_seq_k fun K19 hK19 => ?_
 refine sr fun Z z => ?_
 simp
 refine z _ ?_
 clear z Z
 refine cF (by simp) ?_
 refine AT_region_q fun Z z => ?_
 simp
 refine z _ ?_
 clear z Z
 refine hK19 _ ?_
 refine cF (by simp) ?_
 refine sr fun Z z => ?_
 simp
 refine z _ ?_
 clear z Z
 refine cF (by simp) ?_
 refine sr fun Z z => ?_
 simp
 refine z _ ?_
 clear z Z
 refine cF (by simp) ?_
 refine AT_seq_k fun K20 hK20 => ?_
 refine sr fun Z z => ?_
 simp
 refine z _ ?_
 clear z Z
 refine cF (by simp) ?_
 refine sr fun Z z => ?_
 simp
 refine z _ ?_
 clear z Z
 refine cF (by simp) ?_
 refine sr fun Z z => ?_
 simp
 refine z _ ?_
 clear z Z
 refine cF (by simp) ?_
 refine AT_region_q fun Z z => ?_
 simp
 refine z _ ?_
 clear z Z
 refine hK20 _ ?_
 refine cT (by simp) ?_
 refine sr fun Z z => ?_
 simp
 refine z _ ?_
 clear z Z
 refine AT_ret ?_
 simp [Tryd.f75]
 first | (· unfold clsI; repeat (first | omega | split)) | decide
 have f0 : 97 ≤ n := by omega
 have f1 : ¬ n ≤ 122 := by omega
 have f2 : 65 ≤ n := by omega
 have f3 : ¬ n ≤ 90 := by omega
 have f4 : 48 ≤ n := by omega
 have f5 : ¬ n ≤ 57 := by omega
 have e0 : (n == 95) = false := by simp; omega
 have e1 : (n == 9) = false := by simp; omega
 have e2 : (n == 10) = false := by simp; omega
 have e3 : (n == 13) = false := by simp; omega
 have e4 : (n == 32) = false := by simp; omega
 refine sr fun Z z => ?_
 simp [f0, f1, f2, f3, f4, f5, e0, e1, e2, e3, e4]
 refine z _ ?_
 clear z Z
 refine AT_seq_k fun K21 hK21 => ?_
 refine AT_block ?_
 refine AT_seq_k fun K22 hK22 => ?_
 refine sr fun Z z => ?_
 simp [f0, f1, f2, f3, f4, f5, e0, e1, e2, e3, e4]
 refine z _ ?_
 clear z Z
 refine cF (by simp [f0, f1, f2, f3, f4, f5, e0, e1, e2, e3, e4]) ?_
 refine AT_region_q fun Z z => ?_
 simp [f0, f1, f2, f3, f4, f5, e0, e1, e2, e3, e4]
 refine z _ ?_
 clear z Z
 refine hK22 _ ?_
 refine cF (by simp [f0, f1, f2, f3, f4, f5, e0, e1, e2, e3, e4]) ?_
 refine sr fun Z z => ?_
 simp [f0, f1, f2, f3, f4, f5, e0, e1, e2, e3, e4]
 refine z _ ?_
 clear z Z
 refine cF (by simp [f0, f1, f2, f3, f4, f5, e0, e1, e2, e3, e4]) ?_
 refine sr fun Z z => ?_
 simp [f0, f1, f2, f3, f4, f5, e0, e1, e2, e3, e4]
 refine z _ ?_
 clear z Z
 refine cF (by simp [f0, f1, f2, f3, f4, f5, e0, e1, e2, e3, e4]) ?_
 refine AT_seq_k fun K23 hK23 => ?_
 refine sr fun Z z => ?_
 simp [f0, f1, f2, f3, f4, f5, e0, e1, e2, e3, e4]
 refine z _ ?_
 clear z Z
 refine cF (by simp [f0, f1, f2, f3, f4, f5, e0, e1, e2, e3, e4]) ?_
 refine sr fun Z z => ?_
 simp [f0, f1, f2, f3, f4, f5, e0, e1, e2, e3, e4]
 refine z _ ?_
 clear z Z
 refine cF (by simp [f0, f1, f2, f3, f4, f5, e0, e1, e2, e3, e4]) ?_
 refine sr fun Z z => ?_
 simp [f0, f1, f2, f3, f4, f5, e0, e1, e2, e3, e4]
 refine z _ ?_
 clear z Z
 refine cF (by simp [f0, f1, f2, f3, f4, f5, e0, e1, e2, e3, e4]) ?_
 refine AT_region_q fun Z z => ?_
 simp [f0, f1, f2, f3, f4, f5, e0, e1, e2, e3, e4]
 refine z _ ?_
 clear z Z
 refine hK23 _ ?_
 refine cF (by simp [f0, f1, f2, f3, f4, f5, e0, e1, e2, e3, e4]) ?_
 refine AT_skip ?_
 refine hK21 _ ?_
 refine sr fun Z z => ?_
 simp [f0, f1, f2, f3, f4, f5, e0, e1, e2, e3, e4]
 refine z _ ?_
 clear z Z
 refine AT_ret ?_
 simp [Tryd.f75]
 first | (· unfold clsI; repeat (first | omega | split)) | decide
 have f0 : ¬ 97 ≤ n := by omega
 have f1 : n ≤ 122 := by omega
 have f2 : 65 ≤ n := by omega
 have f3 : ¬ n ≤ 90 := by omega
 have f4 : 48 ≤ n := by omega
 have f5 : ¬ n ≤ 57 := by omega
 have e0 : (n == 95) = false := by simp; omega
 have e1 : (n == 9) = false := by simp; omega
 have e2 : (n == 10) = false := by simp; omega
 have e3 : (n == 13) = false := by simp; omega
 have e4 : (n == 32) = false := by simp; omega
 refine sr fun Z z => ?_
 simp [f0, f1, f2, f3, f4, f5, e0, e1, e2, e3, e4]
 refine z _ ?_
 clear z Z
 refine AT_seq_k fun K24 hK24 => ?_
 refine AT_block ?_
 refine AT_seq_k fun K25 hK25 => ?_
 refine sr fun Z z => ?_
 simp [f0, f1, f2, f3, f4, f5, e0, e1, e2, e3, e4]
 refine z _ ?_
 clear z Z
 refine cF (by simp [f0, f1, f2, f3, f4, f5, e0, e1, e2, e3, e4]) ?_
 refine AT_region_q fun Z z => ?_
 simp [f0, f1, f2, f3, f4, f5, e0, e1, e2, e3, e4]
 refine z _ ?_
 clear z Z
 refine hK25 _ ?_
 refine cF (by simp [f0, f1, f2, f3, f4, f5, e0, e1, e2, e3, e4]) ?_
 refine sr fun Z z => ?_
 simp [f0, f1, f2, f3, f4, f5, e0, e1, e2, e3, e4]
 refine z _ ?_
 clear z Z
 refine cF (by simp [f0, f1, f2, f3, f4, f5, e0, e1, e2, e3, e4]) ?_
 refine sr fun Z z => ?_
 simp [f0, f1, f2, f3, f4, f5, e0, e1, e2, e3, e4]
 refine z _ ?_
 clear z Z
 refine cF (by simp [f0, f1, f2, f3, f4, f5, e0, e1, e2, e3, e4]) ?_
 refine AT_seq_k fun K26 hK26 => ?_
 refine sr fun Z z => ?_
 simp [f0, f1, f2, f3, f4, f5, e0, e1, e2, e3, e4]
 refine z _ ?_
 clear z Z
 refine cF (by simp [f0, f1, f2, f3, f4, f5, e0, e1, e2, e3, e4]) ?_
 refine sr fun Z z => ?_
 simp [f0, f1, f2, f3, f4, f5, e0, e1, e2, e3, e4]
 refine z _ ?_
 clear z Z
 refine cF (by simp [f0, f1, f2, f3, f4, f5, e0, e1, e2, e3, e4]) ?_
 refine sr fun Z z => ?_
 simp [f0, f1, f2, f3, f4, f5, e0, e1, e2, e3, e4]
 refine z _ ?_
 clear z Z
 refine cF (by simp [f0, f1, f2, f3, f4, f5, e0, e1, e2, e3, e4]) ?_
 refine AT_region_q fun Z z => ?_
 simp [f0, f1, f2, f3, f4, f5, e0, e1, e2, e3, e4]
 refine z _ ?_
 clear z Z
 refine hK26 _ ?_
 refine cF (by simp [f0, f1, f2, f3, f4, f5, e0, e1, e2, e3, e4]) ?_
 refine AT_skip ?_
 refine hK24 _ ?_
 refine sr fun Z z => ?_
 simp [f0, f1, f2, f3, f4, f5, e0, e1, e2, e3, e4]
 refine z _ ?_
 clear z Z
 refine AT_ret ?_
 simp [Tryd.f75]
 first | (· unfold clsI; repeat (first | omega | split)) | decide
 have f0 : ¬ 97 ≤ n := by omega
 have f1 : n ≤ 122 := by omega
 have f2 : ¬ 65 ≤ n := by omega
 have f3 : n ≤ 90 := by omega
 have f4 : 48 ≤ n := by omega
 have f5 : ¬ n ≤ 57 := by omega
 have e0 : (n == 95) = false := by simp; omega
 have e1 : (n == 9) = false := by simp; omega
 have e2 : (n == 10) = false := by simp; omega
 have e3 : (n == 13) = false := by simp; omega
 have e4 : (n == 32) = false := by simp; omega
 refine sr fun Z z => ?_
 simp [f0, f1, f2, f3, f4, f5, e0, e1, e2, e3, e4]
 refine z _ ?_
 clear z Z
 refine AT_seq_k fun K27 hK27 => ?_
 refine AT_block ?_
 refine AT_seq_k fun K28 hK28 => ?_
 refine sr fun Z z => ?_
 simp [f0, f1, f2, f3, f4, f5, e0, e1, e2, e3, e4]
 refine z _ ?_
 clear z Z
 refine cF (by simp [f0, f1, f2, f3, f4, f5, e0, e1, e2, e3, e4]) ?_
 refine AT_region_q fun Z z => ?_
 simp [f0, f1, f2, f3, f4, f5, e0, e1, e2, e3, e4]
 refine z _ ?_
 clear z Z
 refine hK28 _ ?_
 refine cF (by simp [f0, f1, f2, f3, f4, f5, e0, e1, e2, e3, e4]) ?_
 refine sr fun Z z => ?_
 simp [f0, f1, f2, f3, f4, f5, e0, e1, e2, e3, e4]
 refine z _ ?_
 clear z Z
 refine cF (by simp [f0, f1, f2, f3, f4, f5, e0, e1, e2, e3, e4]) ?_
 refine sr fun Z z => ?_
 simp [f0, f1, f2, f3, f4, f5, e0, e1, e2, e3, e4]
 refine z _ ?_
 clear z Z
 refine cF (by simp [f0, f1, f2, f3, f4, f5, e0, e1, e2, e3, e4]) ?_
 refine AT_seq_k fun K29 hK29 => ?_
 refine sr fun Z z => ?_
 simp [f0, f1, f2, f3, f4, f5, e0, e1, e2, e3, e4]
 refine z _ ?_
 clear z Z
 refine cF (by simp [f0, f1, f2, f3, f4, f5, e0, e1, e2, e3, e4]) ?_
 refine sr fun Z z => ?_
 simp [f0, f1, f2, f3, f4, f5, e0, e1, e2, e3, e4]
 refine z _ ?_
 clear z Z
 refine cF (by simp [f0, f1, f2, f3, f4, f5, e0, e1, e2, e3, e4]) ?_
 refine sr fun Z z => ?_
 simp [f0, f1, f2, f3, f4, f5, e0, e1, e2, e3, e4]
 refine z _ ?_
 clear z Z
 refine cF (by simp [f0, f1, f2, f3, f4, f5, e0, e1, e2, e3, e4]) ?_
 refine AT_region_q fun Z z => ?_
 simp [f0, f1, f2, f3, f4, f5, e0, e1, e2, e3, e4]
 refine z _ ?_
 clear z Z
 refine hK29 _ ?_
 refine cF (by simp [f0, f1, f2, f3, f4, f5, e0, e1, e2, e3, e4]) ?_
 refine AT_skip ?_
 refine hK27 _ ?_
 refine sr fun Z z => ?_
 simp [f0, f1, f2, f3, f4, f5, e0, e1, e2, e3, e4]
 refine z _ ?_
 clear z Z
 refine AT_ret ?_
 simp [Tryd.f75]
 first | (· unfold clsI; repeat (first | omega | split)) | decide
 have f0 : ¬ 97 ≤ n := by omega
 have f1 : n ≤ 122 := by omega
 have f2 : ¬ 65 ≤ n := by omega
 have f3 : n ≤ 90 := by omega
 have f4 : ¬ 48 ≤ n := by omega
 have f5 : n ≤ 57 := by omega
 have e0 : (n == 95) = false := by simp; omega
 have e1 : (n == 9) = false := by simp; omega
 have e2 : (n == 10) = false := by simp; omega
 have e3 : (n == 13) = false := by simp; omega
 have e4 : (n == 32) = false := by simp; omega
 refine sr fun Z z => ?_
 simp [f0, f1, f2, f3, f4, f5, e0, e1, e2, e3, e4]
 refine z _ ?_
 clear z Z
 refine AT_seq_k fun K30 hK30 => ?_
 refine AT_block ?_
 refine AT_seq_k fun K31 hK31 => ?_
 refine sr fun Z z => ?_
 simp [f0, f1, f2, f3, f4, f5, e0, e1, e2, e3, e4]
 refine z _ ?_
 clear z Z
 refine cF (by simp [f0, f1, f2, f3, f4, f5, e0, e1, e2, e3, e4]) ?_
 refine AT_region_q fun Z z => ?_
 simp [f0, f1, f2, f3, f4, f5, e0, e1, e2, e3, e4]
 refine z _ ?_
 clear z Z
 refine hK31 _ ?_
 refine cF (by simp [f0, f1, f2, f3, f4, f5, e0, e1, e2, e3, e4]) ?_
 refine sr fun Z z => ?_
 simp [f0, f1, f2, f3, f4, f5, e0, e1, e2, e3, e4]
 refine z _ ?_
 clear z Z
 refine cF (by simp [f0, f1, f2, f3, f4, f5, e0, e1, e2, e3, e4]) ?_
 refine sr fun Z z => ?_
 simp [f0, f1, f2, f3, f4, f5, e0, e1, e2, e3, e4]
 refine z _ ?_
 clear z Z
 refine cF (by simp [f0, f1, f2, f3, f4, f5, e0, e1, e2, e3, e4]) ?_
 refine AT_seq_k fun K32 hK32 => ?_
 refine sr fun Z z => ?_
 simp [f0, f1, f2, f3, f4, f5, e0, e1, e2, e3, e4]
 refine z _ ?_
 clear z Z
 refine cF (by simp [f0, f1, f2, f3, f4, f5, e0, e1, e2, e3, e4]) ?_
 refine sr fun Z z => ?_
 simp [f0, f1, f2, f3, f4, f5, e0, e1, e2, e3, e4]
 refine z _ ?_
 clear z Z
 refine cF (by simp [f0, f1, f2, f3, f4, f5, e0, e1, e2, e3, e4]) ?_
 refine sr fun Z z => ?_
 simp [f0, f1, f2, f3, f4, f5, e0, e1, e2, e3, e4]
 refine z _ ?_
 clear z Z
 refine cF (by simp [f0, f1, f2, f3, f4, f5, e0, e1, e2, e3, e4]) ?_
 refine AT_region_q fun Z z => ?_
 simp [f0, f1, f2, f3, f4, f5, e0, e1, e2, e3, e4]
 refine z _ ?_
 clear z Z
 refine hK32 _ ?_
 refine cF (by simp [f0, f1, f2, f3, f4, f5, e0, e1, e2, e3, e4]) ?_
 refine AT_skip ?_
 refine hK30 _ ?_
 refine sr fun Z z => ?_
 simp [f0, f1, f2, f3, f4, f5, e0, e1, e2, e3, e4]
 refine z _ ?_
 clear z Z
 refine AT_ret ?_
 simp [Tryd.f75]
 first | (· unfold clsI; repeat (first | omega | split)) | decide

end Go.Proofs.YtjkabaejabibnaaDoor
end

section
/- Contracts. -/
set_option linter.all false
set_option maxHeartbeats 1000000
set_option maxRecDepth 10000
namespace Go.Proofs.YtjkabaejabibnaaDoor
open Go Go.Pv
variable (g : Nat → Option (List AV)) (rnd : Bool)

theorem c_name_Is_1 (n : Int) (h0 : 0 ≤ n) : Valid Tryd.prog (G0 g rnd) 74 [.int .i32 n] (.bool (wrR n)) := by

 refine valid_of [] Tryd.func74 rfl (by kernel_rfl) ?_
 by_cases h127 : 127 < n
 refine sr fun Z z => ?_
 simp [Tryd.f74, h127]
 refine z _ ?_
 clear z Z
 refine sr fun Z z => ?_
 simp [h127]
 refine z _ ?_
 clear z Z
 refine AT_ret ?_
 simp [Tryd.f74]
 simp [wrR, *]
 have hw : IntKind.u8.wrap n = n := by rw [IntKind.wrap_u8]; omega
 by_cases h1 : clsI n < 1
 refine sr fun Z z => ?_
 simp [h127, hw, h1]
 refine z _ ?_
 clear z Z
 refine sr fun Z z => ?_
 simp [h127, hw, h1]
 refine RVn_call (c_name_Class g rnd n) ?_
 simp [h127, hw, h1]
 repeat refine sg ?_
 refine z _ ?_
 clear z Z
 refine AT_ret ?_
 simp [Tryd.f74]
 simp [wrR, *]
 refine sr fun Z z => ?_
 simp [h127, hw, h1]
 refine z _ ?_
 clear z Z
 refine sr fun Z z => ?_
 simp [h127, hw, h1]
 refine RVn_call (c_name_Class g rnd n) ?_
 simp [h127, hw, h1]
 repeat refine sg ?_
 refine RVn_call (c_name_Class g rnd n) ?_
 simp [h127, hw, h1]
 repeat refine sg ?_
 refine z _ ?_
 clear z Z
 refine AT_ret ?_
 simp [Tryd.f74]
 simp [wrR, *]

theorem c_strings_indexFunc (s : Str) (hs : s.length ≤ 1099511627776) : Valid Tryd.prog (G0 g rnd) 95 [.str s, .func 74 [], .bool true] (.int .i64 (badI s 0)) := by

 refine valid_of [] Tryd.func95 rfl (by kernel_rfl) ?_
 refine sr fun Z z => ?_
 simp [Tryd.f95]
 refine z _ ?_
 clear z Z
 refine AT_seq_k fun K1 hK1 => ?_
 refine sr fun Z z => ?_
 simp
 refine z _ ?_
 clear z Z
 refine AT_block ?_
 refine AT_loop_q [1,2,10] [] (fun j st => ∃ k, k ≤ s.length ∧ badI s 0 = badI (s.drop k) k ∧ j = s.length - k ∧ st = { n := 21, tm := [(1, .v (.func 74 []) none), (2, .v (.bool true) none), (10, .it (.str s k))], bx := [], tb := [], sh := [], hint := [] }) (s.length) (by first | rfl | simp) ?_ ?_
 exact ⟨0, by simp⟩
 rintro j st ⟨k, hk, hc, rfl, rfl⟩ K2 hK2
 by_cases hk2 : k < s.length
 have hbd := badI_drop s k k hk2
 by_cases hgb : goodB s[k] = true
 have hda := dec_ascii s k hk2 (good_ascii hgb)
 have hwr := good_wr hgb
 refine sr fun Z z => ?_
 simp [hk2, hda, hwr]
 refine z _ ?_
 clear z Z
 refine AT_seq_k fun K3 hK3 => ?_
 refine cT (by simp [hk2, hda, hwr]) ?_
 refine AT_skip ?_
 refine hK3 _ ?_
 refine AT_block ?_
 refine sr fun Z z => ?_
 simp [hk2, hda, hwr]
 refine z _ ?_
 clear z Z
 refine sr fun Z z => ?_
 simp [hk2, hda, hwr]
 refine RVn_call (c_name_Is_1 g rnd _ (by omega)) ?_
 simp [hk2, hda, hwr]
 refine z _ ?_
 clear z Z
 refine cF (by simp [hk2, hda, hwr]) ?_
 refine AT_skip ?_
 refine hK2 _ (by first | rfl | simp) (s.length - (k+1)) (by omega) ?_
 refine ⟨k+1, by omega, ?_, by omega, by simp⟩
 rw [hc, hbd, if_pos hgb]
 obtain ⟨rr, qq, hda, hwr⟩ := dec_bad s k hk2 (by simpa using hgb)
 refine sr fun Z z => ?_
 simp [hk2, hda, hwr]
 refine z _ ?_
 clear z Z
 refine AT_seq_k fun K4 hK4 => ?_
 refine cT (by simp [hk2, hda, hwr]) ?_
 refine AT_skip ?_
 refine hK4 _ ?_
 refine AT_block ?_
 refine sr fun Z z => ?_
 simp [hk2, hda, hwr]
 refine z _ ?_
 clear z Z
 refine sr fun Z z => ?_
 simp [hk2, hda, hwr]
 refine RVn_call (c_name_Is_1 g rnd _ (by omega)) ?_
 simp [hk2, hda, hwr]
 refine z _ ?_
 clear z Z
 refine cT (by simp [hk2, hda, hwr]) ?_
 refine sr fun Z z => ?_
 simp [hk2, hda, hwr]
 refine z _ ?_
 clear z Z
 refine AT_ret ?_
 simp [Tryd.f95]
 first | (rw [hc, hbd, if_neg hgb]) | (rw [hc, List.drop_eq_nil_of_le (by omega)]; rfl)
 refine sr fun Z z => ?_
 simp [hk2]
 refine z _ ?_
 clear z Z
 refine AT_seq_k fun K5 hK5 => ?_
 refine cF (by simp [hk2]) ?_
 refine AT_exit ?_
 refine hK1 _ ?_
 refine sr fun Z z => ?_
 simp [hk2]
 refine z _ ?_
 clear z Z
 refine AT_ret ?_
 simp [Tryd.f95]
 first | (rw [hc, hbd, if_neg hgb]) | (rw [hc, List.drop_eq_nil_of_le (by omega)]; rfl)

theorem c_strings_IndexFunc (s : Str) (hs : s.length ≤ 1099511627776) : Valid Tryd.prog (G0 g rnd) 88 [.str s, .func 74 []] (.int .i64 (badI s 0)) := by

 refine valid_of [] Tryd.func88 rfl (by kernel_rfl) ?_
 refine sr fun Z z => ?_
 simp [Tryd.f88]
 refine z _ ?_
 clear z Z
 refine sr fun Z z => ?_
 simp
 refine RVn_call (c_strings_indexFunc g rnd s hs) ?_
 simp
 refine z _ ?_
 clear z Z
 refine AT_ret ?_
 simp [Tryd.f88]

theorem c_strings_ContainsFunc (s : Str) (hs : s.length ≤ 1099511627776) : Valid Tryd.prog (G0 g rnd) 76 [.str s, .func 74 []] (.bool (!s.all goodB)) := by

 refine valid_of [] Tryd.func76 rfl (by kernel_rfl) ?_
 refine sr fun Z z => ?_
 simp [Tryd.f76]
 refine z _ ?_
 clear z Z
 refine sr fun Z z => ?_
 simp
 refine RVn_call (c_strings_IndexFunc g rnd s hs) ?_
 simp
 refine z _ ?_
 clear z Z
 refine AT_ret ?_
 simp [Tryd.f76]
 exact badI_neg s 0

theorem c_slices_Contains_string_string (l : List Str) (x : Str) (hl : l.length ≤ 140737488355328) : Valid Tryd.prog (G0 g rnd) 89 [.slice (l.map encS), .str x] (.bool (l.contains x)) := by

 refine valid_of [] Tryd.func89 rfl (by kernel_rfl) ?_
 refine sr fun Z z => ?_
 simp [Tryd.f89]
 refine z _ ?_
 clear z Z
 refine sr fun Z z => ?_
 simp
 refine RVn_call (c_slices_Index_string_string g rnd l x hl) ?_
 simp
 refine z _ ?_
 clear z Z
 refine AT_ret ?_
 simp [Tryd.f89]
 exact idxF_mem l x 0

theorem c_name_Reserved (s : Str) (hres : g 0 = some reservedA) : Valid Tryd.prog (G0 g rnd) 77 [.str s] (.bool (isRes s)) := by

 refine valid_of [] Tryd.func77 rfl (by kernel_rfl) ?_
 refine sr fun Z z => ?_
 simp [hres, Tryd.f77]
 refine z _ ?_
 clear z Z
 refine sr fun Z z => ?_
 simp [hres]
 refine RVn_call (c_slices_Contains_string_string g rnd reservedL s (by decide)) ?_
 simp [hres]
 refine z _ ?_
 clear z Z
 refine AT_ret ?_
 simp [hres, Tryd.f77]
 simp [isRes]

theorem c_name_Is (s : Str) (hs : s.length ≤ 1099511627776) (hres : g 0 = some reservedA) : Valid Tryd.prog (G0 g rnd) 59 [.str s] (.bool (isName s)) := by

 refine valid_of [] Tryd.func59 rfl (by kernel_rfl) ?_
 refine sr fun Z z => ?_
 simp [Tryd.f59]
 refine z _ ?_
 clear z Z
 refine sr fun Z z => ?_
 simp
 refine z _ ?_
 clear z Z
 rcases s with _ | ⟨b, r⟩
 refine sr fun Z z => ?_
 simp
 refine z _ ?_
 clear z Z
 refine AT_ret ?_
 simp [Tryd.f59]
 first | rfl | (· simp [isName, hc, hga]) | (· simp only [isName, List.all_cons, hga]; simp [hc]) | (· simp [isName, hcb])
 by_cases hc : clsI (b.toNat : Int) = 1
 cases hga : (goodB b && r.all goodB)
 refine sr fun Z z => ?_
 simp [hc, hga]
 refine RVn_call (c_name_Class g rnd _) ?_
 simp [hc, hga]
 repeat refine sg ?_
 refine RVn_call (c_strings_ContainsFunc g rnd _ hs) ?_
 simp [hc, hga]
 repeat refine sg ?_
 refine z _ ?_
 clear z Z
 refine AT_ret ?_
 simp [Tryd.f59]
 first | rfl | (· simp [isName, hc, hga]) | (· simp only [isName, List.all_cons, hga]; simp [hc]) | (· simp [isName, hcb])
 refine sr fun Z z => ?_
 simp [hc, hga]
 refine RVn_call (c_name_Class g rnd _) ?_
 simp [hc, hga]
 repeat refine sg ?_
 refine RVn_call (c_strings_ContainsFunc g rnd _ hs) ?_
 simp [hc, hga]
 repeat refine sg ?_
 refine RVn_call (c_name_Reserved g rnd _ hres) ?_
 simp [hc, hga]
 repeat refine sg ?_
 refine z _ ?_
 clear z Z
 refine AT_ret ?_
 simp [Tryd.f59]
 first | rfl | (· simp [isName, hc, hga]) | (· simp only [isName, List.all_cons, hga]; simp [hc]) | (· simp [isName, hcb])
 have hcb : (clsI (b.toNat : Int) == 1) = false := by simpa using hc
 refine sr fun Z z => ?_
 simp [hcb]
 refine RVn_call (c_name_Class g rnd _) ?_
 simp [hcb]
 repeat refine sg ?_
 refine z _ ?_
 clear z Z
 refine AT_ret ?_
 simp [Tryd.f59]
 first | rfl | (· simp [isName, hc, hga]) | (· simp only [isName, List.all_cons, hga]; simp [hc]) | (· simp [isName, hcb])

end Go.Proofs.YtjkabaejabibnaaDoor
end

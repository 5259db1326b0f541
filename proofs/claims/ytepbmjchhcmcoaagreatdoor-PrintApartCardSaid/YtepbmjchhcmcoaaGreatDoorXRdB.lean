import Derived.Test.YtepbmjchhcmcoaaGreatDoorPt
import Derived.Test.YtepbmjchhcmcoaaGreatDoorPvPb
import Derived.Test.YtepbmjchhcmcoaaGreatDoorPvY
import Derived.Test.YtepbmjchhcmcoaaGreatDoorXLxD
import Derived.Test.YtepbmjchhcmcoaaGreatDoorXNaA
import Derived.Test.YtepbmjchhcmcoaaGreatDoorPvRc
section
/- Contracts: the reference's tokens. -/
set_option linter.all false
set_option maxHeartbeats 1000000
set_option maxRecDepth 10000
namespace Go.Proofs.YtepbmjchhcmcoaaGreatDoor
open Go Go.Pv
variable (g : Nat → Option (List AV)) (rnd : Bool)

end Go.Proofs.YtepbmjchhcmcoaaGreatDoor
end

section
/- Contracts: a cursor over tokens. -/
set_option linter.all false
set_option maxHeartbeats 1000000
set_option maxRecDepth 10000
namespace Go.Proofs.YtepbmjchhcmcoaaGreatDoor
open Go Go.Pv
variable (g : Nat → Option (List AV)) (rnd : Bool)

theorem c_read_Cursor_first (b : Nat) (c : Cur) (hb : c.l.length ≤ 1000000) : ValidC Tryz.prog (G0 g false) 114 [] b (encC 92 c) (.agg (encK c.first)) (encC 92 c) := by
 obtain ⟨l, err⟩ := c
 refine validC_of [] Tryz.func114 rfl (by kernel_rfl) ?_
 refine sr fun Z z => ?_
 simp [encC, errA, encK, Cur.first, Cur.fail, tk0, Tryz.f114]
 refine z _ ?_
 clear z Z
 refine AT_seq_k fun K1 hK1 => ?_
 cases err
 cases l
 refine sr fun Z z => ?_
 simp [encC, errA, encK, Cur.first, Cur.fail, tk0]
 refine z _ ?_
 clear z Z
 refine AT_cond (b := true) (g := none) (by simp) (fun hb => ?_) (fun hb => ?_)
 clear hb
 refine sr fun Z z => ?_
 simp [encC, errA, encK, Cur.first, Cur.fail, tk0]
 refine z _ ?_
 clear z Z
 refine AT_ret ?_
 simp [encC, errA, encK, Cur.first, Cur.fail, tk0, Tryz.f114]
 cases hb
 refine sr fun Z z => ?_
 simp [encC, errA, encK, Cur.first, Cur.fail, tk0]
 refine z _ ?_
 clear z Z
 refine AT_cond (b := false) (g := none) (by simp) (fun hb => ?_) (fun hb => ?_)
 cases hb
 clear hb
 refine AT_skip ?_
 simp only [nrm, reduceIte, Nat.reduceEqDiff]
 refine hK1 _ ?_
 refine sr fun Z z => ?_
 simp [encC, errA, encK, Cur.first, Cur.fail, tk0]
 refine z _ ?_
 clear z Z
 refine AT_ret ?_
 simp [encC, errA, encK, Cur.first, Cur.fail, tk0, Tryz.f114]
 refine sr fun Z z => ?_
 simp [encC, errA, encK, Cur.first, Cur.fail, tk0]
 refine z _ ?_
 clear z Z
 refine AT_cond (b := true) (g := none) (by simp) (fun hb => ?_) (fun hb => ?_)
 clear hb
 refine sr fun Z z => ?_
 simp [encC, errA, encK, Cur.first, Cur.fail, tk0]
 refine z _ ?_
 clear z Z
 refine AT_ret ?_
 simp [encC, errA, encK, Cur.first, Cur.fail, tk0, Tryz.f114]
 cases hb

theorem c_read_Cursor_fail (b : Nat) (c : Cur) (hb : c.l.length ≤ 1000000) : ValidC Tryz.prog (G0 g false) 115 [] b (encC 92 c) (.tup []) (encC 92 c.fail) := by
 obtain ⟨l, err⟩ := c
 refine validC_of [] Tryz.func115 rfl (by kernel_rfl) ?_
 cases err
 refine sr fun Z z => ?_
 simp [encC, errA, Cur.fail, Tryz.f115]
 refine z _ ?_
 clear z Z
 refine AT_cond (b := true) (g := none) (by simp) (fun hb => ?_) (fun hb => ?_)
 clear hb
 refine AT_region_q fun Z z => ?_
 simp [encC, errA, Cur.fail, encK]
 refine RVn_callC (by have h := c_read_Cursor_first g b ⟨l, none⟩ hb; simp only [encC, errA] at h; exact h) rfl ?_
 simp [encC, errA, Cur.fail, encK]
 refine RVn_call (c_fault_New g false _ _) ?_
 simp [encC, errA, Cur.fail, encK]
 refine z _ ?_
 clear z Z
 simp [encC, errA, Cur.fail, Tryz.f115]
 cases hb
 refine sr fun Z z => ?_
 simp [encC, errA, Cur.fail]
 refine z _ ?_
 clear z Z
 refine AT_cond (b := false) (g := none) (by simp) (fun hb => ?_) (fun hb => ?_)
 cases hb
 clear hb
 refine AT_skip ?_
 simp [encC, errA, Cur.fail, Tryz.f115]

theorem c_read_Cursor_Failed (b : Nat) (c : Cur) (hb : c.l.length ≤ 1000000) : ValidC Tryz.prog (G0 g false) 131 [] b (encC 92 c) (.bool c.err.isSome) (encC 92 c) := by
 obtain ⟨l, err⟩ := c
 refine validC_of [] Tryz.func131 rfl (by kernel_rfl) ?_
 refine sr fun Z z => ?_
 simp [encC, errA, Tryz.f131]
 refine z _ ?_
 clear z Z
 cases err
 refine sr fun Z z => ?_
 simp [encC, errA]
 refine z _ ?_
 clear z Z
 refine AT_ret ?_
 simp [encC, errA, Tryz.f131]
 refine sr fun Z z => ?_
 simp [encC, errA]
 refine z _ ?_
 clear z Z
 refine AT_ret ?_
 simp [encC, errA, Tryz.f131]

theorem c_read_Cursor_Next (s : Str) (b : Nat) (c : Cur) (hb : c.l.length ≤ 1000000) : ValidC Tryz.prog (G0 g false) 97 [.str s] b (encC 92 c) (.bool (c.next s)) (encC 92 c) := by

 refine validC_of [] Tryz.func97 rfl (by kernel_rfl) ?_
 refine sr fun Z z => ?_
 simp [encK, Tryz.f97]
 refine z _ ?_
 clear z Z
 refine sr fun Z z => ?_
 simp [encK]
 refine RVn_callC (c_read_Cursor_first g b c hb) rfl ?_
 simp [encK]
 refine z _ ?_
 clear z Z
 cases h1 : (c.first.1 != 3)
 ·
  refine sr fun Z z => ?_
  simp [encK, h1]
  refine z _ ?_
  clear z Z
  refine AT_ret ?_
  simp [encK, Tryz.f97]
  all_goals simp [Cur.next, h1]
 ·
  refine sr fun Z z => ?_
  simp [encK, h1]
  refine z _ ?_
  clear z Z
  refine AT_ret ?_
  simp [encK, Tryz.f97]
  all_goals simp [Cur.next, h1]

theorem c_read_Cursor_Take (s : Str) (b : Nat) (c : Cur) (hb : c.l.length ≤ 1000000) : ValidC Tryz.prog (G0 g false) 94 [.str s] b (encC 92 c) (.bool (c.next s)) (encC 92 (c.take s)) := by

 refine validC_of [] Tryz.func94 rfl (by kernel_rfl) ?_
 refine sr fun Z z => ?_
 simp [Tryz.f94]
 refine z _ ?_
 clear z Z
 refine sr fun Z z => ?_
 simp
 refine RVn_callC (c_read_Cursor_Next g s b c hb) rfl ?_
 simp
 refine z _ ?_
 clear z Z
 refine AT_seq_k fun K1 hK1 => ?_
 cases hn : c.next s
 refine sr fun Z z => ?_
 simp [hn]
 refine z _ ?_
 clear z Z
 refine AT_cond (b := false) (g := none) (by simp [hn]) (fun hb => ?_) (fun hb => ?_)
 cases hb
 clear hb
 refine AT_skip ?_
 simp only [nrm, reduceIte, Nat.reduceEqDiff]
 refine hK1 _ ?_
 refine sr fun Z z => ?_
 simp [hn]
 refine z _ ?_
 clear z Z
 refine AT_ret ?_
 simp [Tryz.f94]
 first | (· simp [hn, Cur.take]) | (· simp [hn, Cur.take, encC, hw, hw2, errA, encK])
 obtain ⟨he, t, r, hl, -, -⟩ := Cur.next_cons hn
 have hw : c.adv.l = r := by simp [Cur.adv, hl]
 have hw2 : c.adv.err = none := he
 refine sr fun Z z => ?_
 simp [hn]
 refine z _ ?_
 clear z Z
 refine AT_cond (b := true) (g := none) (by simp [hn]) (fun hb => ?_) (fun hb => ?_)
 clear hb
 refine AT_region_q fun Z z => ?_
 simp [encC, hl, he, errA, encK, hn]
 repeat refine sgK ?_
 refine z _ ?_
 clear z Z
 simp only [nrm, reduceIte, Nat.reduceEqDiff]
 refine hK1 _ ?_
 refine sr fun Z z => ?_
 simp [hn]
 refine z _ ?_
 clear z Z
 refine AT_ret ?_
 simp [Tryz.f94]
 first | (· simp [hn, Cur.take]) | (· simp [hn, Cur.take, encC, hw, hw2, errA, encK])
 cases hb

theorem c_read_Cursor_Must (s : Str) (b : Nat) (c : Cur) (hb : c.l.length ≤ 1000000) : ValidC Tryz.prog (G0 g false) 96 [.str s] b (encC 92 c) (.tup []) (encC 92 (c.must s)) := by

 refine validC_of [] Tryz.func96 rfl (by kernel_rfl) ?_
 cases hn : c.next s
 ·
  refine sr fun Z z => ?_
  simp [Cur.take, Tryz.f96, hn]
  refine RVn_callC (c_read_Cursor_Take g s b c hb) rfl ?_
  simp [Cur.take, hn]
  refine z _ ?_
  clear z Z
  refine AT_cond (b := true) (g := none) (by simp [hn]) (fun hb => ?_) (fun hb => ?_)
  ·
   clear hb
   refine AT_region_q fun Z z => ?_
   simp [Cur.take, hn]
   refine RVn_callC (c_read_Cursor_fail g b c hb) rfl ?_
   simp [Cur.take, hn]
   refine z _ ?_
   clear z Z
   simp [Cur.take, Tryz.f96]
   all_goals simp [Cur.must, hn]
  ·
   cases hb
 ·
  refine sr fun Z z => ?_
  simp [Cur.take, hn]
  refine RVn_callC (c_read_Cursor_Take g s b c hb) rfl ?_
  simp [Cur.take, hn]
  refine z _ ?_
  clear z Z
  refine AT_cond (b := false) (g := none) (by simp [hn]) (fun hb => ?_) (fun hb => ?_)
  ·
   cases hb
  ·
   clear hb
   refine AT_skip ?_
   simp [Cur.take, Tryz.f96]
   all_goals simp [Cur.must, hn]

theorem c_read_Cursor_Name (b : Nat) (c : Cur) (hb : c.l.length ≤ 1000000) (hnm : ∀ s : Str, s.length ≤ 1000000 → Valid Tryz.prog (G0 g false) 129 [.str s] (.bool (isName s))) (hts : ∀ t ∈ c.l, t.2.1.length ≤ 1000000) : ValidC Tryz.prog (G0 g false) 116 [] b (encC 92 c) (.tup [.str c.nm, .int .i64 c.at_]) (encC 92 c.name) := by
 have hfs : c.first.2.1.length ≤ 1000000 := by
   unfold Cur.first
   split
   · exact Nat.zero_le _
   · cases hl : c.l with
     | nil => exact Nat.zero_le _
     | cons t r => exact hts t (by rw [hl]; simp)
 refine validC_of [] Tryz.func116 rfl (by kernel_rfl) ?_
 refine sr fun Z z => ?_
 simp [encK, Tryz.f116]
 refine z _ ?_
 clear z Z
 refine sr fun Z z => ?_
 simp [encK]
 refine RVn_callC (c_read_Cursor_first g b c hb) rfl ?_
 simp [encK]
 refine z _ ?_
 clear z Z
 refine AT_seq_k fun K1 hK1 => ?_
 cases h1 : (c.first.1 == 1)
 have h1b : (c.first.1 != 1) = true := by simp only [bne, h1]; rfl
 refine sr fun Z z => ?_
 simp [encK, h1, h1b]
 refine z _ ?_
 clear z Z
 refine AT_cond (b := true) (g := none) (by simp [h1, h1b]) (fun hb => ?_) (fun hb => ?_)
 clear hb
 refine sr fun Z z => ?_
 simp [encK, h1, h1b]
 refine RVn_callC (c_read_Cursor_fail g b c hb) rfl ?_
 simp [encK, h1, h1b]
 refine z _ ?_
 clear z Z
 refine sr fun Z z => ?_
 simp [encK, h1, h1b]
 refine z _ ?_
 clear z Z
 refine AT_ret ?_
 simp [encK, Tryz.f116]
 first | (· simp [Cur.nm, Cur.at_, Cur.name, Cur.named, h1]) | (· simp [Cur.nm, Cur.at_, Cur.name, Cur.named, h1, h2]) | (· simp [Cur.nm, Cur.at_, Cur.name, Cur.named, h1, h2, encC, hw, hw2, errA, encK])
 cases hb
 have h1b : (c.first.1 != 1) = false := by simp only [bne, h1]; rfl
 cases h2 : isName c.first.2.1
 refine sr fun Z z => ?_
 simp [encK, h1, h1b, h2]
 refine RVn_call (hnm _ hfs) ?_
 simp [encK, h1, h1b, h2]
 repeat refine sgK ?_
 refine z _ ?_
 clear z Z
 refine AT_cond (b := true) (g := none) (by simp [h1, h1b, h2]) (fun hb => ?_) (fun hb => ?_)
 clear hb
 refine sr fun Z z => ?_
 simp [encK, h1, h1b, h2]
 refine RVn_callC (c_read_Cursor_fail g b c hb) rfl ?_
 simp [encK, h1, h1b, h2]
 refine z _ ?_
 clear z Z
 refine sr fun Z z => ?_
 simp [encK, h1, h1b, h2]
 refine z _ ?_
 clear z Z
 refine AT_ret ?_
 simp [encK, Tryz.f116]
 first | (· simp [Cur.nm, Cur.at_, Cur.name, Cur.named, h1]) | (· simp [Cur.nm, Cur.at_, Cur.name, Cur.named, h1, h2]) | (· simp [Cur.nm, Cur.at_, Cur.name, Cur.named, h1, h2, encC, hw, hw2, errA, encK])
 cases hb
 have hn : c.named = true := by simp [Cur.named, h1, h2]
 obtain ⟨he, t, r, hl, -, -⟩ := Cur.named_cons hn
 have hw : c.adv.l = r := by simp [Cur.adv, hl]
 have hw2 : c.adv.err = none := he
 refine sr fun Z z => ?_
 simp [encK, h1, h1b, h2]
 refine RVn_call (hnm _ hfs) ?_
 simp [encK, h1, h1b, h2]
 repeat refine sgK ?_
 refine z _ ?_
 clear z Z
 refine AT_cond (b := false) (g := none) (by simp [h1, h1b, h2]) (fun hb => ?_) (fun hb => ?_)
 cases hb
 clear hb
 refine AT_skip ?_
 simp only [nrm, reduceIte, Nat.reduceEqDiff]
 refine hK1 _ ?_
 refine sr fun Z z => ?_
 simp [encK, encC, hl, he, errA, h1, h1b, h2]
 repeat refine sgK ?_
 refine z _ ?_
 clear z Z
 refine AT_seq_draw Pt.mixed (by kernel_rfl) fun Z z => ?_
 simp [encK, h1, h1b, h2]
 refine z _ ?_
 clear z Z
 refine AT_ret ?_
 simp [encK, Tryz.f116]
 first | (· simp [Cur.nm, Cur.at_, Cur.name, Cur.named, h1]) | (· simp [Cur.nm, Cur.at_, Cur.name, Cur.named, h1, h2]) | (· simp [Cur.nm, Cur.at_, Cur.name, Cur.named, h1, h2, encC, hw, hw2, errA, encK])

end Go.Proofs.YtepbmjchhcmcoaaGreatDoor
end

section
/- Contracts: lists of items, read. -/
set_option linter.all false
set_option maxHeartbeats 1000000
set_option maxRecDepth 10000
namespace Go.Proofs.YtepbmjchhcmcoaaGreatDoor
open Go Go.Pv
variable (g : Nat → Option (List AV)) (rnd : Bool)

theorem c_read_list_api_Type (rd : Cur → Ty × Cur) (b n : Nat) (L : List Tk) (hsuf : ∀ c, (rd c).2.l <:+ c.l) (hrd : ∀ c, c.l.length < n → c.l <:+ L → ValidC Tryz.prog (G0 g false) 132 [] b (encC 92 c) (.agg (encTy (rd c).1)) (encC 92 (rd c).2)) (c : Cur) (hc : c.l.length < n) (hcL : c.l <:+ L) (hn : n ≤ 1000000) : ValidC Tryz.prog (G0 g false) 133 [.bfn 132 [.gp b 0]] b (encC 92 c) (.slice ((listC rd c).1.map encTy)) (encC 92 (listC rd c).2) := by
 have hlen := fun c => (hsuf c).length_le
 have hl0 := hlen c
 refine validC_of [(8, 25)] Tryz.func133 rfl (by kernel_rfl) ?_
 refine sr fun Z z => ?_
 simp [Tryz.f133]
 refine z _ ?_
 clear z Z
 refine sr fun Z z => ?_
 simp
 refine RVn_callC (hrd c hc hcL) rfl ?_
 simp
 refine z _ ?_
 clear z Z
 refine AT_seq_k fun K1 hK1 => ?_
 refine AT_block ?_
 refine AT_loop_q [0,1,5] [] (fun j s => ∃ k acc, listC rd c = (acc ++ (loopC rd k.l.length k).1, (loopC rd k.l.length k).2) ∧ (k.l.length < n ∧ k.l <:+ L) ∧ acc.length + k.l.length ≤ c.l.length + 1 ∧ j = k.l.length ∧ s = { n := 17, tm := [(0, .v (.gp b 0) none), (1, .v (.bfn 132 [.gp b 0]) none), (5, .v (.slice (acc.map encTy)) (some (8, 25)))], bx := [], tb := [], sh := [(b, (encC 92 k))], hint := [(8, 25)] }) ((rd c).2.l.length) (by first | rfl | simp) ?_ ?_
 exact ⟨(rd c).2, [(rd c).1], by simp [listC], ⟨by omega, (hsuf c).trans hcL⟩, by simp; omega, rfl, by simp⟩
 rintro j s ⟨k, acc, hk, ⟨hkn, hkL⟩, hka, rfl, rfl⟩ K2 hK2
 refine AT_seq_k fun K3 hK3 => ?_
 cases hnx : k.next [44]
 refine sr fun Z z => ?_
 simp [Cur.take, hnx]
 refine RVn_callC (c_read_Cursor_Take g [44] b k (by omega)) rfl ?_
 simp [Cur.take, hnx]
 refine z _ ?_
 clear z Z
 refine AT_cond (b := false) (g := none) (by simp [hnx]) (fun hb => ?_) (fun hb => ?_)
 cases hb
 clear hb
 refine AT_exit ?_
 simp only [nrm, reduceIte, Nat.reduceEqDiff]
 refine hK1 _ ?_
 refine sr fun Z z => ?_
 simp [hnx]
 refine z _ ?_
 clear z Z
 refine AT_ret ?_
 simp [Tryz.f133]
 simp [hk, loopC_at hlen, hnx]
 have ha := Cur.adv_len hnx
 have hla := hlen k.adv
 refine sr fun Z z => ?_
 simp [Cur.take, hnx]
 refine RVn_callC (c_read_Cursor_Take g [44] b k (by omega)) rfl ?_
 simp [Cur.take, hnx]
 refine z _ ?_
 clear z Z
 refine AT_cond (b := true) (g := none) (by simp [hnx]) (fun hb => ?_) (fun hb => ?_)
 clear hb
 refine AT_skip ?_
 simp only [nrm, reduceIte, Nat.reduceEqDiff]
 refine hK3 _ ?_
 refine AT_block ?_
 refine AT_region_q fun Z z => ?_
 simp [hnx]
 refine RVn_callC (hrd k.adv (by omega) (k.adv_suf.trans hkL)) rfl ?_
 simp [hnx]
 repeat refine sg ?_
 refine z _ ?_
 clear z Z
 refine hK2 _ (by first | rfl | simp) ((rd k.adv).2.l.length) (by omega) ?_
 exact ⟨(rd k.adv).2, acc ++ [(rd k.adv).1], by rw [hk, loopC_at hlen, if_pos hnx]; simp, ⟨by omega, (hsuf _).trans (k.adv_suf.trans hkL)⟩, by simp; omega, rfl, by simp⟩
 cases hb

theorem c_read_list_api_Expr (rd : Cur → Exp × Cur) (b n : Nat) (L : List Tk) (hsuf : ∀ c, (rd c).2.l <:+ c.l) (hrd : ∀ c, c.l.length < n → c.l <:+ L → ValidC Tryz.prog (G0 g false) 99 [] b (encC 92 c) (.agg (encE (rd c).1)) (encC 92 (rd c).2)) (c : Cur) (hc : c.l.length < n) (hcL : c.l <:+ L) (hn : n ≤ 1000000) : ValidC Tryz.prog (G0 g false) 134 [.bfn 99 [.gp b 0]] b (encC 92 c) (.slice ((listC rd c).1.map encE)) (encC 92 (listC rd c).2) := by
 have hlen := fun c => (hsuf c).length_le
 have hl0 := hlen c
 refine validC_of [(8, 28)] Tryz.func134 rfl (by kernel_rfl) ?_
 refine sr fun Z z => ?_
 simp [Tryz.f134]
 refine z _ ?_
 clear z Z
 refine sr fun Z z => ?_
 simp
 refine RVn_callC (hrd c hc hcL) rfl ?_
 simp
 refine z _ ?_
 clear z Z
 refine AT_seq_k fun K1 hK1 => ?_
 refine AT_block ?_
 refine AT_loop_q [0,1,5] [] (fun j s => ∃ k acc, listC rd c = (acc ++ (loopC rd k.l.length k).1, (loopC rd k.l.length k).2) ∧ (k.l.length < n ∧ k.l <:+ L) ∧ acc.length + k.l.length ≤ c.l.length + 1 ∧ j = k.l.length ∧ s = { n := 17, tm := [(0, .v (.gp b 0) none), (1, .v (.bfn 99 [.gp b 0]) none), (5, .v (.slice (acc.map encE)) (some (8, 28)))], bx := [], tb := [], sh := [(b, (encC 92 k))], hint := [(8, 28)] }) ((rd c).2.l.length) (by first | rfl | simp) ?_ ?_
 exact ⟨(rd c).2, [(rd c).1], by simp [listC], ⟨by omega, (hsuf c).trans hcL⟩, by simp; omega, rfl, by simp⟩
 rintro j s ⟨k, acc, hk, ⟨hkn, hkL⟩, hka, rfl, rfl⟩ K2 hK2
 refine AT_seq_k fun K3 hK3 => ?_
 cases hnx : k.next [44]
 refine sr fun Z z => ?_
 simp [Cur.take, hnx]
 refine RVn_callC (c_read_Cursor_Take g [44] b k (by omega)) rfl ?_
 simp [Cur.take, hnx]
 refine z _ ?_
 clear z Z
 refine AT_cond (b := false) (g := none) (by simp [hnx]) (fun hb => ?_) (fun hb => ?_)
 cases hb
 clear hb
 refine AT_exit ?_
 simp only [nrm, reduceIte, Nat.reduceEqDiff]
 refine hK1 _ ?_
 refine sr fun Z z => ?_
 simp [hnx]
 refine z _ ?_
 clear z Z
 refine AT_ret ?_
 simp [Tryz.f134]
 simp [hk, loopC_at hlen, hnx]
 have ha := Cur.adv_len hnx
 have hla := hlen k.adv
 refine sr fun Z z => ?_
 simp [Cur.take, hnx]
 refine RVn_callC (c_read_Cursor_Take g [44] b k (by omega)) rfl ?_
 simp [Cur.take, hnx]
 refine z _ ?_
 clear z Z
 refine AT_cond (b := true) (g := none) (by simp [hnx]) (fun hb => ?_) (fun hb => ?_)
 clear hb
 refine AT_skip ?_
 simp only [nrm, reduceIte, Nat.reduceEqDiff]
 refine hK3 _ ?_
 refine AT_block ?_
 refine AT_region_q fun Z z => ?_
 simp [hnx]
 refine RVn_callC (hrd k.adv (by omega) (k.adv_suf.trans hkL)) rfl ?_
 simp [hnx]
 repeat refine sg ?_
 refine z _ ?_
 clear z Z
 refine hK2 _ (by first | rfl | simp) ((rd k.adv).2.l.length) (by omega) ?_
 exact ⟨(rd k.adv).2, acc ++ [(rd k.adv).1], by rw [hk, loopC_at hlen, if_pos hnx]; simp, ⟨by omega, (hsuf _).trans (k.adv_suf.trans hkL)⟩, by simp; omega, rfl, by simp⟩
 cases hb

end Go.Proofs.YtepbmjchhcmcoaaGreatDoor
end

import Derived.Test.YtpjkdaechknogaaDoorPt
import Derived.Test.YtpjkdaechknogaaDoorPvPb
import Derived.Test.YtpjkdaechknogaaDoorPvY
import Derived.Test.YtpjkdaechknogaaDoorPvRb
import Derived.Test.YtpjkdaechknogaaDoorXLxE
import Derived.Test.YtpjkdaechknogaaDoorXLxA
section
/- Contracts: a cursor over tokens. -/
set_option linter.all false
set_option maxHeartbeats 1000000
set_option maxRecDepth 10000
namespace Go.Proofs.YtpjkdaechknogaaDoor
open Go Go.Pv
variable (g : Nat → Option (List AV)) (rnd : Bool)

theorem c_read_Cursor_first (b : Nat) (c : Cur) (hb : c.l.length ≤ 1000000) : ValidC Tryd.prog (G0 g false) 52 [] b (encC 110 c) (.agg (encK c.first)) (encC 110 c) := by
 obtain ⟨l, err⟩ := c
 refine validC_of [] Tryd.func52 rfl (by kernel_rfl) ?_
 refine AT_seq_region fun K1 hK1 => ?_
 simp [encC, errA, encK, Cur.first, Cur.fail, tk0, Tryd.f52]
 repeat refine sg ?_
 refine hK1 _ ?_
 clear hK1 K1
 refine AT_seq_k fun K2 hK2 => ?_
 cases err
 ·
  cases l
  ·
   refine AT_seq_region fun K3 hK3 => ?_
   simp [encC, errA, encK, Cur.first, Cur.fail, tk0]
   repeat refine sg ?_
   refine hK3 _ ?_
   clear hK3 K3
   refine AT_cond (b := true) (g := none) (by simp) (fun hb => ?_) (fun hb => ?_)
   ·
    clear hb
    refine AT_seq_region fun K4 hK4 => ?_
    simp [encC, errA, encK, Cur.first, Cur.fail, tk0]
    repeat refine sg ?_
    refine hK4 _ ?_
    clear hK4 K4
    refine AT_ret ?_
    simp [encC, errA, encK, Cur.first, Cur.fail, tk0, Tryd.f52]
   ·
    cases hb
  ·
   refine AT_seq_region fun K5 hK5 => ?_
   simp [encC, errA, encK, Cur.first, Cur.fail, tk0]
   repeat refine sg ?_
   refine hK5 _ ?_
   clear hK5 K5
   refine AT_cond (b := false) (g := none) (by simp) (fun hb => ?_) (fun hb => ?_)
   ·
    cases hb
   ·
    clear hb
    refine AT_skip ?_
    try simp only [nrm, reduceIte, Nat.reduceEqDiff]
    refine hK2 _ ?_
    refine AT_seq_region fun K6 hK6 => ?_
    simp [encC, errA, encK, Cur.first, Cur.fail, tk0]
    repeat refine sg ?_
    refine hK6 _ ?_
    clear hK6 K6
    refine AT_ret ?_
    simp [encC, errA, encK, Cur.first, Cur.fail, tk0, Tryd.f52]
 ·
  refine AT_seq_region fun K7 hK7 => ?_
  simp [encC, errA, encK, Cur.first, Cur.fail, tk0]
  repeat refine sg ?_
  refine hK7 _ ?_
  clear hK7 K7
  refine AT_cond (b := true) (g := none) (by simp) (fun hb => ?_) (fun hb => ?_)
  ·
   clear hb
   refine AT_seq_region fun K8 hK8 => ?_
   simp [encC, errA, encK, Cur.first, Cur.fail, tk0]
   repeat refine sg ?_
   refine hK8 _ ?_
   clear hK8 K8
   refine AT_ret ?_
   simp [encC, errA, encK, Cur.first, Cur.fail, tk0, Tryd.f52]
  ·
   cases hb

theorem c_read_Cursor_fail (b : Nat) (c : Cur) (hb : c.l.length ≤ 1000000) : ValidC Tryd.prog (G0 g false) 54 [] b (encC 110 c) (.tup []) (encC 110 c.fail) := by
 obtain ⟨l, err⟩ := c
 refine validC_of [] Tryd.func54 rfl (by kernel_rfl) ?_
 cases err
 ·
  refine AT_seq_region fun K1 hK1 => ?_
  simp [encC, errA, Cur.fail, Tryd.f54]
  repeat refine sg ?_
  refine hK1 _ ?_
  clear hK1 K1
  refine AT_cond (b := true) (g := none) (by simp) (fun hb => ?_) (fun hb => ?_)
  ·
   clear hb
   refine AT_region_q fun K2 hK2 => ?_
   simp [encC, errA, Cur.fail, encK]
   repeat refine sg ?_
   refine RVn_callC (by have h := c_read_Cursor_first g b ⟨l, none⟩ hb; simp only [encC, errA] at h; exact h) rfl ?_
   simp [encC, errA, Cur.fail, encK]
   repeat refine sg ?_
   refine RVn_call (c_fault_New g false _ _) ?_
   simp [encC, errA, Cur.fail, encK]
   repeat refine sg ?_
   refine hK2 _ ?_
   clear hK2 K2
   try simp only [nrm, reduceIte, Nat.reduceEqDiff]
   simp [encC, errA, Cur.fail, Tryd.f54]
  ·
   cases hb
 ·
  refine AT_seq_region fun K3 hK3 => ?_
  simp [encC, errA, Cur.fail]
  repeat refine sg ?_
  refine hK3 _ ?_
  clear hK3 K3
  refine AT_cond (b := false) (g := none) (by simp) (fun hb => ?_) (fun hb => ?_)
  ·
   cases hb
  ·
   clear hb
   refine AT_skip ?_
   try simp only [nrm, reduceIte, Nat.reduceEqDiff]
   simp [encC, errA, Cur.fail, Tryd.f54]

theorem c_read_Cursor_Failed (b : Nat) (c : Cur) (hb : c.l.length ≤ 1000000) : ValidC Tryd.prog (G0 g false) 24 [] b (encC 110 c) (.bool c.err.isSome) (encC 110 c) := by
 obtain ⟨l, err⟩ := c
 refine validC_of [] Tryd.func24 rfl (by kernel_rfl) ?_
 refine AT_seq_region fun K1 hK1 => ?_
 simp [encC, errA, Tryd.f24]
 repeat refine sg ?_
 refine hK1 _ ?_
 clear hK1 K1
 cases err
 ·
  refine AT_seq_region fun K2 hK2 => ?_
  simp [encC, errA]
  repeat refine sg ?_
  refine hK2 _ ?_
  clear hK2 K2
  refine AT_ret ?_
  simp [encC, errA, Tryd.f24]
 ·
  refine AT_seq_region fun K3 hK3 => ?_
  simp [encC, errA]
  repeat refine sg ?_
  refine hK3 _ ?_
  clear hK3 K3
  refine AT_ret ?_
  simp [encC, errA, Tryd.f24]

theorem c_read_Cursor_Next (s : Str) (b : Nat) (c : Cur) (hb : c.l.length ≤ 1000000) : ValidC Tryd.prog (G0 g false) 25 [.str s] b (encC 110 c) (.bool (c.next s)) (encC 110 c) := by

 refine validC_of [] Tryd.func25 rfl (by kernel_rfl) ?_
 refine AT_seq_region fun K1 hK1 => ?_
 simp [encK, Tryd.f25]
 repeat refine sg ?_
 refine hK1 _ ?_
 clear hK1 K1
 refine AT_seq_region fun K2 hK2 => ?_
 simp [encK]
 repeat refine sg ?_
 refine RVn_callC (c_read_Cursor_first g b c hb) rfl ?_
 simp [encK]
 repeat refine sg ?_
 refine hK2 _ ?_
 clear hK2 K2
 cases h1 : (c.first.1 != 3)
 ·
  refine AT_seq_region fun K3 hK3 => ?_
  simp [encK, h1]
  repeat refine sg ?_
  refine hK3 _ ?_
  clear hK3 K3
  refine AT_ret ?_
  simp [encK, Tryd.f25]
  all_goals simp [Cur.next, h1]
 ·
  refine AT_seq_region fun K4 hK4 => ?_
  simp [encK, h1]
  repeat refine sg ?_
  refine hK4 _ ?_
  clear hK4 K4
  refine AT_ret ?_
  simp [encK, Tryd.f25]
  all_goals simp [Cur.next, h1]

theorem c_read_Cursor_Take (s : Str) (b : Nat) (c : Cur) (hb : c.l.length ≤ 1000000) : ValidC Tryd.prog (G0 g false) 26 [.str s] b (encC 110 c) (.bool (c.next s)) (encC 110 (c.take s)) := by

 refine validC_of [] Tryd.func26 rfl (by kernel_rfl) ?_
 refine AT_seq_region fun K1 hK1 => ?_
 simp [Tryd.f26]
 repeat refine sgK ?_
 refine hK1 _ ?_
 clear hK1 K1
 refine AT_seq_region fun K2 hK2 => ?_
 simp
 repeat refine sgK ?_
 refine RVn_callC (c_read_Cursor_Next g s b c hb) rfl ?_
 simp
 repeat refine sgK ?_
 refine hK2 _ ?_
 clear hK2 K2
 refine AT_seq_k fun K3 hK3 => ?_
 cases hn : c.next s
 ·
  refine AT_seq_region fun K4 hK4 => ?_
  simp [hn]
  repeat refine sgK ?_
  refine hK4 _ ?_
  clear hK4 K4
  refine AT_cond (b := false) (g := none) (by simp [hn]) (fun hb => ?_) (fun hb => ?_)
  ·
   cases hb
  ·
   clear hb
   refine AT_skip ?_
   try simp only [nrm, reduceIte, Nat.reduceEqDiff]
   refine hK3 _ ?_
   refine AT_seq_region fun K5 hK5 => ?_
   simp [hn]
   repeat refine sgK ?_
   refine hK5 _ ?_
   clear hK5 K5
   refine AT_ret ?_
   simp [Tryd.f26]
   first | (simp [hn, Cur.take]; done) | (simp [hn, Cur.take, encC, hw, hw2, errA, encK]; done)
 ·
  obtain ⟨he, t, r, hl, -, -⟩ := Cur.next_cons hn
  have hw : c.adv.l = r := by simp [Cur.adv, hl]
  have hw2 : c.adv.err = none := he
  refine AT_seq_region fun K6 hK6 => ?_
  simp [hn]
  repeat refine sgK ?_
  refine hK6 _ ?_
  clear hK6 K6
  refine AT_cond (b := true) (g := none) (by simp [hn]) (fun hb => ?_) (fun hb => ?_)
  ·
   clear hb
   refine AT_region_q fun K7 hK7 => ?_
   simp [encC, hl, he, errA, encK, hn]
   repeat refine sgK ?_
   refine hK7 _ ?_
   clear hK7 K7
   try simp only [nrm, reduceIte, Nat.reduceEqDiff]
   refine hK3 _ ?_
   refine AT_seq_region fun K8 hK8 => ?_
   simp [hn]
   repeat refine sgK ?_
   refine hK8 _ ?_
   clear hK8 K8
   refine AT_ret ?_
   simp [Tryd.f26]
   first | (simp [hn, Cur.take]; done) | (simp [hn, Cur.take, encC, hw, hw2, errA, encK]; done)
  ·
   cases hb

theorem c_read_Cursor_Must (s : Str) (b : Nat) (c : Cur) (hb : c.l.length ≤ 1000000) : ValidC Tryd.prog (G0 g false) 27 [.str s] b (encC 110 c) (.tup []) (encC 110 (c.must s)) := by

 refine validC_of [] Tryd.func27 rfl (by kernel_rfl) ?_
 cases hn : c.next s
 ·
  refine AT_seq_region fun K1 hK1 => ?_
  simp [Cur.take, Tryd.f27, hn]
  repeat refine sg ?_
  refine RVn_callC (c_read_Cursor_Take g s b c hb) rfl ?_
  simp [Cur.take, hn]
  repeat refine sg ?_
  refine hK1 _ ?_
  clear hK1 K1
  refine AT_cond (b := true) (g := none) (by simp [hn]) (fun hb => ?_) (fun hb => ?_)
  ·
   clear hb
   refine AT_region_q fun K2 hK2 => ?_
   simp [Cur.take, hn]
   repeat refine sg ?_
   refine RVn_callC (c_read_Cursor_fail g b c hb) rfl ?_
   simp [Cur.take, hn]
   repeat refine sg ?_
   refine hK2 _ ?_
   clear hK2 K2
   try simp only [nrm, reduceIte, Nat.reduceEqDiff]
   simp [Cur.take, Tryd.f27]
   all_goals simp [Cur.must, hn]
  ·
   cases hb
 ·
  refine AT_seq_region fun K3 hK3 => ?_
  simp [Cur.take, hn]
  repeat refine sg ?_
  refine RVn_callC (c_read_Cursor_Take g s b c hb) rfl ?_
  simp [Cur.take, hn]
  repeat refine sg ?_
  refine hK3 _ ?_
  clear hK3 K3
  refine AT_cond (b := false) (g := none) (by simp [hn]) (fun hb => ?_) (fun hb => ?_)
  ·
   cases hb
  ·
   clear hb
   refine AT_skip ?_
   try simp only [nrm, reduceIte, Nat.reduceEqDiff]
   simp [Cur.take, Tryd.f27]
   all_goals simp [Cur.must, hn]

theorem c_read_Cursor_Name (b : Nat) (c : Cur) (hb : c.l.length ≤ 1000000) (hnm : ∀ s : Str, s.length ≤ 1000000 → Valid Tryd.prog (G0 g false) 53 [.str s] (.bool (isName s))) (hts : ∀ t ∈ c.l, t.2.1.length ≤ 1000000) : ValidC Tryd.prog (G0 g false) 21 [] b (encC 110 c) (.tup [.str c.nm, .int .i64 c.at_]) (encC 110 c.name) := by
 have hfs : c.first.2.1.length ≤ 1000000 := by
   unfold Cur.first
   split
   · exact Nat.zero_le _
   · cases hl : c.l with
     | nil => exact Nat.zero_le _
     | cons t r => exact hts t (by rw [hl]; simp)
 refine validC_of [] Tryd.func21 rfl (by kernel_rfl) ?_
 refine AT_seq_region fun K1 hK1 => ?_
 simp [encK, Tryd.f21]
 repeat refine sgK ?_
 refine hK1 _ ?_
 clear hK1 K1
 refine AT_seq_region fun K2 hK2 => ?_
 simp [encK]
 repeat refine sgK ?_
 refine RVn_callC (c_read_Cursor_first g b c hb) rfl ?_
 simp [encK]
 repeat refine sgK ?_
 refine hK2 _ ?_
 clear hK2 K2
 refine AT_seq_k fun K3 hK3 => ?_
 cases h1 : (c.first.1 == 1)
 ·
  have h1b : (c.first.1 != 1) = true := by simp only [bne, h1]; rfl
  refine AT_seq_region fun K4 hK4 => ?_
  simp [encK, h1, h1b]
  repeat refine sgK ?_
  try (
   refine RVn_call (hnm _ hfs) ?_
   simp [encK, h1, h1b]
   repeat refine sgK ?_)
  refine hK4 _ ?_
  clear hK4 K4
  refine AT_cond (b := true) (g := none) (by simp [h1, h1b]) (fun hb => ?_) (fun hb => ?_)
  ·
   clear hb
   refine AT_seq_region fun K5 hK5 => ?_
   simp [encK, h1, h1b]
   repeat refine sgK ?_
   refine RVn_callC (c_read_Cursor_fail g b c hb) rfl ?_
   simp [encK, h1, h1b]
   repeat refine sgK ?_
   refine hK5 _ ?_
   clear hK5 K5
   refine AT_seq_region fun K6 hK6 => ?_
   simp [encK, h1, h1b]
   repeat refine sgK ?_
   refine hK6 _ ?_
   clear hK6 K6
   refine AT_ret ?_
   simp [encK, Tryd.f21]
   first | (simp [Cur.nm, Cur.at_, Cur.name, Cur.named, h1]; done) | (simp [Cur.nm, Cur.at_, Cur.name, Cur.named, h1, h2]; done) | (simp [Cur.nm, Cur.at_, Cur.name, Cur.named, h1, h2, encC, hw, hw2, errA, encK]; done)
  ·
   cases hb
 ·
  have h1b : (c.first.1 != 1) = false := by simp only [bne, h1]; rfl
  cases h2 : isName c.first.2.1
  ·
   refine AT_seq_region fun K7 hK7 => ?_
   simp [encK, h1, h1b, h2]
   repeat refine sgK ?_
   try (
    refine RVn_call (hnm _ hfs) ?_
    simp [encK, h1, h1b, h2]
    repeat refine sgK ?_)
   refine hK7 _ ?_
   clear hK7 K7
   refine AT_cond (b := true) (g := none) (by simp [h1, h1b, h2]) (fun hb => ?_) (fun hb => ?_)
   ·
    clear hb
    refine AT_seq_region fun K8 hK8 => ?_
    simp [encK, h1, h1b, h2]
    repeat refine sgK ?_
    refine RVn_callC (c_read_Cursor_fail g b c hb) rfl ?_
    simp [encK, h1, h1b, h2]
    repeat refine sgK ?_
    refine hK8 _ ?_
    clear hK8 K8
    refine AT_seq_region fun K9 hK9 => ?_
    simp [encK, h1, h1b, h2]
    repeat refine sgK ?_
    refine hK9 _ ?_
    clear hK9 K9
    refine AT_ret ?_
    simp [encK, Tryd.f21]
    first | (simp [Cur.nm, Cur.at_, Cur.name, Cur.named, h1]; done) | (simp [Cur.nm, Cur.at_, Cur.name, Cur.named, h1, h2]; done) | (simp [Cur.nm, Cur.at_, Cur.name, Cur.named, h1, h2, encC, hw, hw2, errA, encK]; done)
   ·
    cases hb
  ·
   have hn : c.named = true := by simp [Cur.named, h1, h2]
   obtain ⟨he, t, r, hl, -, -⟩ := Cur.named_cons hn
   have hw : c.adv.l = r := by simp [Cur.adv, hl]
   have hw2 : c.adv.err = none := he
   refine AT_seq_region fun K10 hK10 => ?_
   simp [encK, h1, h1b, h2]
   repeat refine sgK ?_
   try (
    refine RVn_call (hnm _ hfs) ?_
    simp [encK, h1, h1b, h2]
    repeat refine sgK ?_)
   refine hK10 _ ?_
   clear hK10 K10
   refine AT_cond (b := false) (g := none) (by simp [h1, h1b, h2]) (fun hb => ?_) (fun hb => ?_)
   ·
    cases hb
   ·
    clear hb
    refine AT_skip ?_
    try simp only [nrm, reduceIte, Nat.reduceEqDiff]
    refine hK3 _ ?_
    refine AT_seq_region fun K11 hK11 => ?_
    simp [encK, encC, hl, he, errA, h1, h1b, h2]
    repeat refine sgK ?_
    refine hK11 _ ?_
    clear hK11 K11
    refine AT_seq_draw Pt.mixed (by kernel_rfl) fun K12 hK12 => ?_
    simp [encK, h1, h1b, h2]
    repeat refine sgK ?_
    refine hK12 _ ?_
    clear hK12 K12
    refine AT_ret ?_
    simp [encK, Tryd.f21]
    first | (simp [Cur.nm, Cur.at_, Cur.name, Cur.named, h1]; done) | (simp [Cur.nm, Cur.at_, Cur.name, Cur.named, h1, h2]; done) | (simp [Cur.nm, Cur.at_, Cur.name, Cur.named, h1, h2, encC, hw, hw2, errA, encK]; done)

end Go.Proofs.YtpjkdaechknogaaDoor
end

section
/- Contracts: lists of items, read. -/
set_option linter.all false
set_option maxHeartbeats 1000000
set_option maxRecDepth 10000
namespace Go.Proofs.YtpjkdaechknogaaDoor
open Go Go.Pv
variable (g : Nat → Option (List AV)) (rnd : Bool)

theorem c_read_list_api_Type (rd : Cur → Ty × Cur) (b n : Nat) (L : List Tk) (hsuf : ∀ c, (rd c).2.l <:+ c.l) (hrd : ∀ c, c.l.length < n → c.l <:+ L → ValidC Tryd.prog (G0 g false) 39 [] b (encC 110 c) (.agg (encTy (rd c).1)) (encC 110 (rd c).2)) (c : Cur) (hc : c.l.length < n) (hcL : c.l <:+ L) (hn : n ≤ 1000000) : ValidC Tryd.prog (G0 g false) 74 [.bfn 39 [.gp b 0]] b (encC 110 c) (.slice ((listC rd c).1.map encTy)) (encC 110 (listC rd c).2) := by
 have hlen := fun c => (hsuf c).length_le
 have hl0 := hlen c
 refine validC_of [(8, 24)] Tryd.func74 rfl (by kernel_rfl) ?_
 refine AT_seq_region fun K1 hK1 => ?_
 simp [Tryd.f74]
 repeat refine sg ?_
 refine hK1 _ ?_
 clear hK1 K1
 refine AT_seq_region fun K2 hK2 => ?_
 simp
 repeat refine sg ?_
 refine RVn_callC (hrd c hc hcL) rfl ?_
 simp
 repeat refine sg ?_
 refine hK2 _ ?_
 clear hK2 K2
 refine AT_seq_k fun K3 hK3 => ?_
 refine AT_block ?_
 refine AT_loop_q [0,1,5] [] (fun j s => ∃ k acc, listC rd c = (acc ++ (loopC rd k.l.length k).1, (loopC rd k.l.length k).2) ∧ (k.l.length < n ∧ k.l <:+ L) ∧ acc.length + k.l.length ≤ c.l.length + 1 ∧ j = k.l.length ∧ s = { n := 17, tm := [(0, .v (.gp b 0) none), (1, .v (.bfn 39 [.gp b 0]) none), (5, .v (.slice (acc.map encTy)) (some (8, 24)))], bx := [], tb := [], sh := [(b, (encC 110 k))], hint := [(8, 24)] }) ((rd c).2.l.length) (by first | rfl | simp) ?_ ?_
 ·
  exact ⟨(rd c).2, [(rd c).1], by simp [listC], ⟨by omega, (hsuf c).trans hcL⟩, by simp; omega, rfl, by simp⟩
 ·
  rintro j s ⟨k, acc, hk, ⟨hkn, hkL⟩, hka, rfl, rfl⟩ K4 hK4
  refine AT_seq_k fun K5 hK5 => ?_
  cases hnx : k.next [44]
  ·
   refine AT_seq_region fun K6 hK6 => ?_
   simp [Cur.take, hnx]
   repeat refine sg ?_
   refine RVn_callC (c_read_Cursor_Take g [44] b k (by omega)) rfl ?_
   simp [Cur.take, hnx]
   repeat refine sg ?_
   refine hK6 _ ?_
   clear hK6 K6
   refine AT_cond (b := false) (g := none) (by simp [hnx]) (fun hb => ?_) (fun hb => ?_)
   ·
    cases hb
   ·
    clear hb
    refine AT_exit ?_
    try simp only [nrm, reduceIte, Nat.reduceEqDiff]
    refine hK3 _ ?_
    refine AT_seq_region fun K7 hK7 => ?_
    simp [hnx]
    repeat refine sg ?_
    refine hK7 _ ?_
    clear hK7 K7
    refine AT_ret ?_
    simp [Tryd.f74]
    simp [hk, loopC_at hlen, hnx]
  ·
   have ha := Cur.adv_len hnx
   have hla := hlen k.adv
   refine AT_seq_region fun K8 hK8 => ?_
   simp [Cur.take, hnx]
   repeat refine sg ?_
   refine RVn_callC (c_read_Cursor_Take g [44] b k (by omega)) rfl ?_
   simp [Cur.take, hnx]
   repeat refine sg ?_
   refine hK8 _ ?_
   clear hK8 K8
   refine AT_cond (b := true) (g := none) (by simp [hnx]) (fun hb => ?_) (fun hb => ?_)
   ·
    clear hb
    refine AT_skip ?_
    try simp only [nrm, reduceIte, Nat.reduceEqDiff]
    refine hK5 _ ?_
    refine AT_block ?_
    refine AT_region_q fun K9 hK9 => ?_
    simp [hnx]
    repeat refine sg ?_
    refine RVn_callC (hrd k.adv (by omega) (k.adv_suf.trans hkL)) rfl ?_
    simp [hnx]
    repeat refine sg ?_
    refine hK9 _ ?_
    clear hK9 K9
    try simp only [nrm, reduceIte, Nat.reduceEqDiff]
    refine hK4 _ (by first | rfl | simp) ((rd k.adv).2.l.length) (by omega) ?_
    exact ⟨(rd k.adv).2, acc ++ [(rd k.adv).1], by rw [hk, loopC_at hlen, if_pos hnx]; simp, ⟨by omega, (hsuf _).trans (k.adv_suf.trans hkL)⟩, by simp; omega, rfl, by simp⟩
   ·
    cases hb

theorem c_read_list_api_Expr (rd : Cur → Exp × Cur) (b n : Nat) (L : List Tk) (hsuf : ∀ c, (rd c).2.l <:+ c.l) (hrd : ∀ c, c.l.length < n → c.l <:+ L → ValidC Tryd.prog (G0 g false) 41 [] b (encC 110 c) (.agg (encE (rd c).1)) (encC 110 (rd c).2)) (c : Cur) (hc : c.l.length < n) (hcL : c.l <:+ L) (hn : n ≤ 1000000) : ValidC Tryd.prog (G0 g false) 75 [.bfn 41 [.gp b 0]] b (encC 110 c) (.slice ((listC rd c).1.map encE)) (encC 110 (listC rd c).2) := by
 have hlen := fun c => (hsuf c).length_le
 have hl0 := hlen c
 refine validC_of [(8, 27)] Tryd.func75 rfl (by kernel_rfl) ?_
 refine AT_seq_region fun K1 hK1 => ?_
 simp [Tryd.f75]
 repeat refine sg ?_
 refine hK1 _ ?_
 clear hK1 K1
 refine AT_seq_region fun K2 hK2 => ?_
 simp
 repeat refine sg ?_
 refine RVn_callC (hrd c hc hcL) rfl ?_
 simp
 repeat refine sg ?_
 refine hK2 _ ?_
 clear hK2 K2
 refine AT_seq_k fun K3 hK3 => ?_
 refine AT_block ?_
 refine AT_loop_q [0,1,5] [] (fun j s => ∃ k acc, listC rd c = (acc ++ (loopC rd k.l.length k).1, (loopC rd k.l.length k).2) ∧ (k.l.length < n ∧ k.l <:+ L) ∧ acc.length + k.l.length ≤ c.l.length + 1 ∧ j = k.l.length ∧ s = { n := 17, tm := [(0, .v (.gp b 0) none), (1, .v (.bfn 41 [.gp b 0]) none), (5, .v (.slice (acc.map encE)) (some (8, 27)))], bx := [], tb := [], sh := [(b, (encC 110 k))], hint := [(8, 27)] }) ((rd c).2.l.length) (by first | rfl | simp) ?_ ?_
 ·
  exact ⟨(rd c).2, [(rd c).1], by simp [listC], ⟨by omega, (hsuf c).trans hcL⟩, by simp; omega, rfl, by simp⟩
 ·
  rintro j s ⟨k, acc, hk, ⟨hkn, hkL⟩, hka, rfl, rfl⟩ K4 hK4
  refine AT_seq_k fun K5 hK5 => ?_
  cases hnx : k.next [44]
  ·
   refine AT_seq_region fun K6 hK6 => ?_
   simp [Cur.take, hnx]
   repeat refine sg ?_
   refine RVn_callC (c_read_Cursor_Take g [44] b k (by omega)) rfl ?_
   simp [Cur.take, hnx]
   repeat refine sg ?_
   refine hK6 _ ?_
   clear hK6 K6
   refine AT_cond (b := false) (g := none) (by simp [hnx]) (fun hb => ?_) (fun hb => ?_)
   ·
    cases hb
   ·
    clear hb
    refine AT_exit ?_
    try simp only [nrm, reduceIte, Nat.reduceEqDiff]
    refine hK3 _ ?_
    refine AT_seq_region fun K7 hK7 => ?_
    simp [hnx]
    repeat refine sg ?_
    refine hK7 _ ?_
    clear hK7 K7
    refine AT_ret ?_
    simp [Tryd.f75]
    simp [hk, loopC_at hlen, hnx]
  ·
   have ha := Cur.adv_len hnx
   have hla := hlen k.adv
   refine AT_seq_region fun K8 hK8 => ?_
   simp [Cur.take, hnx]
   repeat refine sg ?_
   refine RVn_callC (c_read_Cursor_Take g [44] b k (by omega)) rfl ?_
   simp [Cur.take, hnx]
   repeat refine sg ?_
   refine hK8 _ ?_
   clear hK8 K8
   refine AT_cond (b := true) (g := none) (by simp [hnx]) (fun hb => ?_) (fun hb => ?_)
   ·
    clear hb
    refine AT_skip ?_
    try simp only [nrm, reduceIte, Nat.reduceEqDiff]
    refine hK5 _ ?_
    refine AT_block ?_
    refine AT_region_q fun K9 hK9 => ?_
    simp [hnx]
    repeat refine sg ?_
    refine RVn_callC (hrd k.adv (by omega) (k.adv_suf.trans hkL)) rfl ?_
    simp [hnx]
    repeat refine sg ?_
    refine hK9 _ ?_
    clear hK9 K9
    try simp only [nrm, reduceIte, Nat.reduceEqDiff]
    refine hK4 _ (by first | rfl | simp) ((rd k.adv).2.l.length) (by omega) ?_
    exact ⟨(rd k.adv).2, acc ++ [(rd k.adv).1], by rw [hk, loopC_at hlen, if_pos hnx]; simp, ⟨by omega, (hsuf _).trans (k.adv_suf.trans hkL)⟩, by simp; omega, rfl, by simp⟩
   ·
    cases hb

end Go.Proofs.YtpjkdaechknogaaDoor
end

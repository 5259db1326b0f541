/- Contracts. -/
import Derived.Test.YtngpggbigjeehaaDoorPt
import Derived.Test.YtngpggbigjeehaaDoorPvLa
import Derived.Test.YtngpggbigjeehaaDoorPvX
import Derived.Test.YtngpggbigjeehaaDoorXNaN
set_option linter.all false
set_option maxHeartbeats 1000000
set_option maxRecDepth 10000
namespace Go.Proofs.YtngpggbigjeehaaDoor
open Go Go.Pv
variable (g : Nat → Option (List AV)) (rnd : Bool)

theorem c_law01x_awake (hres : g 0 = some reservedA) (htab : g 3 = some pow10A) (hers : ∃ x, g 1 = some [.iface 78 x]) (herr : ∃ x, g 2 = some [.iface 78 x]) : Valid Tryd.prog (G0 g rnd) 7 [] (.bool true) := by

  refine valid_of [] Tryd.func7 rfl (by kernel_rfl) ?_
  refine AT_seq_region fun K1 hK1 => ?_
  simp [Tryd.f7]
  repeat (refine ⟨by first | omega | (simp at *; omega), ?_⟩)
  refine hK1 _ ?_
  clear hK1 K1
  refine AT_seq_region fun K2 hK2 => ?_
  simp
  repeat (refine ⟨by first | omega | (simp at *; omega), ?_⟩)
  refine RVn_call ((by have h := c_name_Index g rnd [36, 49, 50] (by decide) htab hers herr; rw [locI, aw12] at h; exact h : Valid Tryd.prog (G0 g rnd) 15 [.str [36, 49, 50]] (.tup [.int .i64 12, .bool true]))) ?_
  simp
  repeat (refine ⟨by first | omega | (simp at *; omega), ?_⟩)
  refine hK2 _ ?_
  clear hK2 K2
  refine AT_seq_region fun K3 hK3 => ?_
  simp
  repeat (refine ⟨by first | omega | (simp at *; omega), ?_⟩)
  refine RVn_call ((by have h := c_name_Is g rnd [97, 95, 49] (by decide) hres; exact h : Valid Tryd.prog (G0 g rnd) 8 [.str [97, 95, 49]] (.bool true))) ?_
  simp
  repeat (refine ⟨by first | omega | (simp at *; omega), ?_⟩)
  refine RVn_call ((by have h := c_name_Is g rnd [116, 121, 112, 101] (by decide) hres; exact h : Valid Tryd.prog (G0 g rnd) 8 [.str [116, 121, 112, 101]] (.bool false))) ?_
  simp
  repeat (refine ⟨by first | omega | (simp at *; omega), ?_⟩)
  refine RVn_call ((by have h := c_name_Is g rnd [49, 97] (by decide) hres; exact h : Valid Tryd.prog (G0 g rnd) 8 [.str [49, 97]] (.bool false))) ?_
  simp
  repeat (refine ⟨by first | omega | (simp at *; omega), ?_⟩)
  refine RVn_call ((by have h := c_name_Reserved g rnd [102, 117, 110, 99] hres; exact h : Valid Tryd.prog (G0 g rnd) 10 [.str [102, 117, 110, 99]] (.bool true))) ?_
  simp
  repeat (refine ⟨by first | omega | (simp at *; omega), ?_⟩)
  refine RVn_call ((by have h := c_name_Class g rnd 95; exact h : Valid Tryd.prog (G0 g rnd) 12 [.int .u8 95] (.int .i64 3))) ?_
  simp
  repeat (refine ⟨by first | omega | (simp at *; omega), ?_⟩)
  refine RVn_call ((by have h := c_name_Local g rnd 3 (by decide) (by decide) htab; rw [aw3] at h; exact h : Valid Tryd.prog (G0 g rnd) 14 [.int .i64 3] (.str [36, 51]))) ?_
  simp
  repeat (refine ⟨by first | omega | (simp at *; omega), ?_⟩)
  refine RVn_call ((by have h := c_name_Compare g rnd [97] [98]; exact h : Valid Tryd.prog (G0 g rnd) 18 [.str [97], .str [98]] (.int .i64 (-1)))) ?_
  simp
  repeat (refine ⟨by first | omega | (simp at *; omega), ?_⟩)
  refine hK3 _ ?_
  clear hK3 K3
  refine AT_ret ?_
  simp [Tryd.f7]

theorem c_law01x_NameMatchesReference (s : Str) (c : Int) (hres : g 0 = some reservedA) (htab : g 3 = some pow10A) (hers : ∃ x, g 1 = some [.iface 78 x]) (herr : ∃ x, g 2 = some [.iface 78 x]) : Valid Tryd.prog (G0 g rnd) 3 [.str s, .int .u8 c] (.bool true) := by

  refine valid_of [] Tryd.func3 rfl (by kernel_rfl) ?_
  refine AT_seq_region fun K1 hK1 => ?_
  simp [Tryd.f3]
  repeat (refine ⟨by first | omega | (simp at *; omega), ?_⟩)
  refine hK1 _ ?_
  clear hK1 K1
  refine AT_seq_k fun K2 hK2 => ?_
  by_cases hls : (1000 : Int) < s.length
  ·
    refine AT_seq_region fun K3 hK3 => ?_
    simp [hls]
    repeat (refine ⟨by first | omega | (simp at *; omega), ?_⟩)
    refine RVn_call (c_law01x_awake g rnd hres htab hers herr) ?_
    simp [hls]
    repeat (refine ⟨by first | omega | (simp at *; omega), ?_⟩)
    refine hK3 _ ?_
    clear hK3 K3
    refine AT_cond (b := true) (g := none) (by simp [hls]) (fun hb => ?_) (fun hb => ?_)
    ·
      clear hb
      refine AT_seq_region fun K4 hK4 => ?_
      simp [hls]
      repeat (refine ⟨by first | omega | (simp at *; omega), ?_⟩)
      refine RVn_call (c_law01x_awake g rnd hres htab hers herr) ?_
      simp [hls]
      repeat (refine ⟨by first | omega | (simp at *; omega), ?_⟩)
      refine hK4 _ ?_
      clear hK4 K4
      refine AT_ret ?_
      simp [Tryd.f3]
    ·
      cases hb
  ·
    refine AT_seq_region fun K5 hK5 => ?_
    simp [hls]
    repeat (refine ⟨by first | omega | (simp at *; omega), ?_⟩)
    refine RVn_call (c_law01x_awake g rnd hres htab hers herr) ?_
    simp [hls]
    repeat (refine ⟨by first | omega | (simp at *; omega), ?_⟩)
    refine hK5 _ ?_
    clear hK5 K5
    refine AT_cond (b := false) (g := none) (by simp [hls]) (fun hb => ?_) (fun hb => ?_)
    ·
      cases hb
    ·
      clear hb
      refine AT_skip ?_
      try simp only [thenA, inBlockA, ite_true, ite_false, reduceIte, Nat.reduceEqDiff]
      refine hK2 _ ?_
      refine AT_seq_region fun K6 hK6 => ?_
      simp [hls]
      repeat (refine ⟨by first | omega | (simp at *; omega), ?_⟩)
      refine RVn_call (c_name_Is g rnd s (by omega) hres) ?_
      simp [hls]
      repeat (refine ⟨by first | omega | (simp at *; omega), ?_⟩)
      refine RVn_call (c_ref01x_Is g rnd s (by omega)) ?_
      simp [hls]
      repeat (refine ⟨by first | omega | (simp at *; omega), ?_⟩)
      refine RVn_call (c_name_Reserved g rnd s hres) ?_
      simp [hls]
      repeat (refine ⟨by first | omega | (simp at *; omega), ?_⟩)
      refine RVn_call (c_ref01x_Reserved g rnd s) ?_
      simp [hls]
      repeat (refine ⟨by first | omega | (simp at *; omega), ?_⟩)
      refine RVn_call (c_name_Class g rnd c) ?_
      simp [hls]
      repeat (refine ⟨by first | omega | (simp at *; omega), ?_⟩)
      refine RVn_call (c_ref01x_Class g rnd c) ?_
      simp [hls]
      repeat (refine ⟨by first | omega | (simp at *; omega), ?_⟩)
      refine hK6 _ ?_
      clear hK6 K6
      refine AT_ret ?_
      simp [Tryd.f3]

theorem c_law01x_NameOrders (a b c : Str) (hres : g 0 = some reservedA) (htab : g 3 = some pow10A) (hers : ∃ x, g 1 = some [.iface 78 x]) (herr : ∃ x, g 2 = some [.iface 78 x]) : Valid Tryd.prog (G0 g rnd) 6 [.str a, .str b, .str c] (.bool true) := by

  refine valid_of [] Tryd.func6 rfl (by kernel_rfl) ?_
  refine AT_seq_region fun K1 hK1 => ?_
  simp [Tryd.f6]
  repeat (refine ⟨by first | omega | (simp at *; omega), ?_⟩)
  refine hK1 _ ?_
  clear hK1 K1
  refine AT_seq_k fun K2 hK2 => ?_
  by_cases hla : (300 : Int) < a.length
  ·
    refine AT_seq_region fun K3 hK3 => ?_
    simp [hla]
    repeat (refine ⟨by first | omega | (simp at *; omega), ?_⟩)
    refine RVn_call (c_law01x_awake g rnd hres htab hers herr) ?_
    simp [hla]
    repeat (refine ⟨by first | omega | (simp at *; omega), ?_⟩)
    refine hK3 _ ?_
    clear hK3 K3
    refine AT_cond (b := true) (g := none) (by simp [hla]) (fun hb => ?_) (fun hb => ?_)
    ·
      clear hb
      refine AT_seq_region fun K4 hK4 => ?_
      simp [hla]
      repeat (refine ⟨by first | omega | (simp at *; omega), ?_⟩)
      refine RVn_call (c_law01x_awake g rnd hres htab hers herr) ?_
      simp [hla]
      repeat (refine ⟨by first | omega | (simp at *; omega), ?_⟩)
      refine hK4 _ ?_
      clear hK4 K4
      refine AT_ret ?_
      simp [Tryd.f6]
    ·
      cases hb
  ·
    by_cases hlb : (300 : Int) < b.length
    ·
      refine AT_seq_region fun K5 hK5 => ?_
      simp [hla, hlb]
      repeat (refine ⟨by first | omega | (simp at *; omega), ?_⟩)
      refine RVn_call (c_law01x_awake g rnd hres htab hers herr) ?_
      simp [hla, hlb]
      repeat (refine ⟨by first | omega | (simp at *; omega), ?_⟩)
      refine hK5 _ ?_
      clear hK5 K5
      refine AT_cond (b := true) (g := none) (by simp [hla, hlb]) (fun hb => ?_) (fun hb => ?_)
      ·
        clear hb
        refine AT_seq_region fun K6 hK6 => ?_
        simp [hla, hlb]
        repeat (refine ⟨by first | omega | (simp at *; omega), ?_⟩)
        refine RVn_call (c_law01x_awake g rnd hres htab hers herr) ?_
        simp [hla, hlb]
        repeat (refine ⟨by first | omega | (simp at *; omega), ?_⟩)
        refine hK6 _ ?_
        clear hK6 K6
        refine AT_ret ?_
        simp [Tryd.f6]
      ·
        cases hb
    ·
      by_cases hlc : (300 : Int) < c.length
      ·
        refine AT_seq_region fun K7 hK7 => ?_
        simp [hla, hlb, hlc]
        repeat (refine ⟨by first | omega | (simp at *; omega), ?_⟩)
        refine RVn_call (c_law01x_awake g rnd hres htab hers herr) ?_
        simp [hla, hlb, hlc]
        repeat (refine ⟨by first | omega | (simp at *; omega), ?_⟩)
        refine hK7 _ ?_
        clear hK7 K7
        refine AT_cond (b := true) (g := none) (by simp [hla, hlb, hlc]) (fun hb => ?_) (fun hb => ?_)
        ·
          clear hb
          refine AT_seq_region fun K8 hK8 => ?_
          simp [hla, hlb, hlc]
          repeat (refine ⟨by first | omega | (simp at *; omega), ?_⟩)
          refine RVn_call (c_law01x_awake g rnd hres htab hers herr) ?_
          simp [hla, hlb, hlc]
          repeat (refine ⟨by first | omega | (simp at *; omega), ?_⟩)
          refine hK8 _ ?_
          clear hK8 K8
          refine AT_ret ?_
          simp [Tryd.f6]
        ·
          cases hb
      ·
        refine AT_seq_region fun K9 hK9 => ?_
        simp [hla, hlb, hlc]
        repeat (refine ⟨by first | omega | (simp at *; omega), ?_⟩)
        refine RVn_call (c_law01x_awake g rnd hres htab hers herr) ?_
        simp [hla, hlb, hlc]
        repeat (refine ⟨by first | omega | (simp at *; omega), ?_⟩)
        refine hK9 _ ?_
        clear hK9 K9
        refine AT_cond (b := false) (g := none) (by simp [hla, hlb, hlc]) (fun hb => ?_) (fun hb => ?_)
        ·
          cases hb
        ·
          clear hb
          refine AT_skip ?_
          try simp only [thenA, inBlockA, ite_true, ite_false, reduceIte, Nat.reduceEqDiff]
          refine hK2 _ ?_
          refine AT_seq_region fun K10 hK10 => ?_
          have hr := cmpS_range a b
          simp [hla, hlb, hlc]
          repeat (refine ⟨by first | omega | (simp at *; omega), ?_⟩)
          refine RVn_call (c_name_Compare g rnd a b) ?_
          simp [hla, hlb, hlc]
          repeat (refine ⟨by first | omega | (simp at *; omega), ?_⟩)
          refine hK10 _ ?_
          clear hK10 K10
          refine AT_seq_k fun K11 hK11 => ?_
          refine AT_seq_region fun K12 hK12 => ?_
          have hr := cmpS_range a b
          have hbq := cmpS_beq a b
          simp [hbq, hla, hlb, hlc]
          repeat (refine ⟨by first | omega | (simp at *; omega), ?_⟩)
          refine RVn_call (c_ref01x_Compare g rnd a b (by omega)) ?_
          simp [hbq, hla, hlb, hlc]
          repeat (refine ⟨by first | omega | (simp at *; omega), ?_⟩)
          refine RVn_call ((cmpS_anti a b ▸ c_name_Compare g rnd b a : Valid Tryd.prog (G0 g rnd) 18 [.str b, .str a] (.int .i64 (- cmpS a b)))) ?_
          simp [hbq, hla, hlb, hlc]
          repeat (refine ⟨by first | omega | (simp at *; omega), ?_⟩)
          refine hK12 _ ?_
          clear hK12 K12
          refine AT_cond (b := false) (g := none) (by simp [hla, hlb, hlc]) (fun hb => ?_) (fun hb => ?_)
          ·
            cases hb
          ·
            clear hb
            refine AT_skip ?_
            try simp only [thenA, inBlockA, ite_true, ite_false, reduceIte, Nat.reduceEqDiff]
            refine hK11 _ ?_
            by_cases h0 : 0 < cmpS a b
            ·
              refine AT_seq_region fun K13 hK13 => ?_
              simp [hla, hlb, hlc, h0]
              repeat (refine ⟨by first | omega | (simp at *; omega), ?_⟩)
              try (
                refine RVn_call (c_name_Compare g rnd b c) ?_
                simp [hla, hlb, hlc, h0]
                repeat (refine ⟨by first | omega | (simp at *; omega), ?_⟩))
              try (
                refine RVn_call (c_name_Compare g rnd a c) ?_
                simp [hla, hlb, hlc, h0]
                repeat (refine ⟨by first | omega | (simp at *; omega), ?_⟩))
              refine hK13 _ ?_
              clear hK13 K13
              refine AT_ret ?_
              simp [Tryd.f6]
            ·
              by_cases h1 : 0 < cmpS b c
              ·
                refine AT_seq_region fun K14 hK14 => ?_
                simp [hla, hlb, hlc, h0, h1]
                repeat (refine ⟨by first | omega | (simp at *; omega), ?_⟩)
                try (
                  refine RVn_call (c_name_Compare g rnd b c) ?_
                  simp [hla, hlb, hlc, h0, h1]
                  repeat (refine ⟨by first | omega | (simp at *; omega), ?_⟩))
                try (
                  refine RVn_call (c_name_Compare g rnd a c) ?_
                  simp [hla, hlb, hlc, h0, h1]
                  repeat (refine ⟨by first | omega | (simp at *; omega), ?_⟩))
                refine hK14 _ ?_
                clear hK14 K14
                refine AT_ret ?_
                simp [Tryd.f6]
              ·
                have h2 : cmpS a c ≤ 0 := (cmpS_tr a b c (by omega) (by omega)).1
                refine AT_seq_region fun K15 hK15 => ?_
                simp [hla, hlb, hlc, h0, h1, h2]
                repeat (refine ⟨by first | omega | (simp at *; omega), ?_⟩)
                try (
                  refine RVn_call (c_name_Compare g rnd b c) ?_
                  simp [hla, hlb, hlc, h0, h1, h2]
                  repeat (refine ⟨by first | omega | (simp at *; omega), ?_⟩))
                try (
                  refine RVn_call (c_name_Compare g rnd a c) ?_
                  simp [hla, hlb, hlc, h0, h1, h2]
                  repeat (refine ⟨by first | omega | (simp at *; omega), ?_⟩))
                refine hK15 _ ?_
                clear hK15 K15
                refine AT_ret ?_
                simp [Tryd.f6]

theorem c_law01x_NameIndexes (s : Str) (hres : g 0 = some reservedA) (htab : g 3 = some pow10A) (hers : ∃ x, g 1 = some [.iface 78 x]) (herr : ∃ x, g 2 = some [.iface 78 x]) : Valid Tryd.prog (G0 g rnd) 5 [.str s] (.bool true) := by

  refine valid_of [] Tryd.func5 rfl (by kernel_rfl) ?_
  refine AT_seq_region fun K1 hK1 => ?_
  simp [Tryd.f5]
  repeat (refine ⟨by first | omega | (simp at *; omega), ?_⟩)
  refine hK1 _ ?_
  clear hK1 K1
  refine AT_seq_k fun K2 hK2 => ?_
  by_cases hls : (1000 : Int) < s.length
  ·
    refine AT_seq_region fun K3 hK3 => ?_
    simp [hls]
    repeat (refine ⟨by first | omega | (simp at *; omega), ?_⟩)
    refine RVn_call (c_law01x_awake g rnd hres htab hers herr) ?_
    simp [hls]
    repeat (refine ⟨by first | omega | (simp at *; omega), ?_⟩)
    refine hK3 _ ?_
    clear hK3 K3
    refine AT_cond (b := true) (g := none) (by simp [hls]) (fun hb => ?_) (fun hb => ?_)
    ·
      clear hb
      refine AT_seq_region fun K4 hK4 => ?_
      simp [hls]
      repeat (refine ⟨by first | omega | (simp at *; omega), ?_⟩)
      refine RVn_call (c_law01x_awake g rnd hres htab hers herr) ?_
      simp [hls]
      repeat (refine ⟨by first | omega | (simp at *; omega), ?_⟩)
      refine hK4 _ ?_
      clear hK4 K4
      refine AT_ret ?_
      simp [Tryd.f5]
    ·
      cases hb
  ·
    refine AT_seq_region fun K5 hK5 => ?_
    simp [hls]
    repeat (refine ⟨by first | omega | (simp at *; omega), ?_⟩)
    refine RVn_call (c_law01x_awake g rnd hres htab hers herr) ?_
    simp [hls]
    repeat (refine ⟨by first | omega | (simp at *; omega), ?_⟩)
    refine hK5 _ ?_
    clear hK5 K5
    refine AT_cond (b := false) (g := none) (by simp [hls]) (fun hb => ?_) (fun hb => ?_)
    ·
      cases hb
    ·
      clear hb
      refine AT_skip ?_
      try simp only [thenA, inBlockA, ite_true, ite_false, reduceIte, Nat.reduceEqDiff]
      refine hK2 _ ?_
      have hix := c_name_Index g rnd s (by omega) htab hers herr
      have hir := c_ref01x_Index g rnd s (by omega)
      unfold locI at hix
      unfold locR at hir
      rcases hlo : locOf s with _ | n
      ·
        rw [hlo] at hix hir
        simp only [Option.isSome_none] at hix hir
        refine AT_seq_region fun K6 hK6 => ?_
        simp [hls]
        repeat (refine ⟨by first | omega | (simp at *; omega), ?_⟩)
        refine RVn_call (hix) ?_
        simp [hls]
        repeat (refine ⟨by first | omega | (simp at *; omega), ?_⟩)
        refine hK6 _ ?_
        clear hK6 K6
        refine AT_seq_region fun K7 hK7 => ?_
        simp [hls]
        repeat (refine ⟨by first | omega | (simp at *; omega), ?_⟩)
        refine RVn_call (hir) ?_
        simp [hls]
        repeat (refine ⟨by first | omega | (simp at *; omega), ?_⟩)
        refine hK7 _ ?_
        clear hK7 K7
        refine AT_seq_k fun K8 hK8 => ?_
        refine AT_seq_region fun K9 hK9 => ?_
        simp [hls]
        repeat (refine ⟨by first | omega | (simp at *; omega), ?_⟩)
        refine hK9 _ ?_
        clear hK9 K9
        refine AT_cond (b := true) (g := none) (by simp [hls]) (fun hb => ?_) (fun hb => ?_)
        ·
          clear hb
          refine AT_seq_region fun K10 hK10 => ?_
          simp [hls]
          repeat (refine ⟨by first | omega | (simp at *; omega), ?_⟩)
          refine hK10 _ ?_
          clear hK10 K10
          refine AT_ret ?_
          simp [Tryd.f5]
        ·
          cases hb
      ·
        rw [hlo] at hix hir
        simp only [Option.isSome_some] at hix hir
        obtain ⟨hse, hn⟩ := locOf_some hlo
        have hloc := c_name_Local g rnd (n : Int) (by omega) (by omega) htab
        rw [locS_nat, ← hse] at hloc
        refine AT_seq_region fun K11 hK11 => ?_
        simp [hls]
        repeat (refine ⟨by first | omega | (simp at *; omega), ?_⟩)
        refine RVn_call (hix) ?_
        simp [hls]
        repeat (refine ⟨by first | omega | (simp at *; omega), ?_⟩)
        refine hK11 _ ?_
        clear hK11 K11
        refine AT_seq_region fun K12 hK12 => ?_
        simp [hls]
        repeat (refine ⟨by first | omega | (simp at *; omega), ?_⟩)
        refine RVn_call (hir) ?_
        simp [hls]
        repeat (refine ⟨by first | omega | (simp at *; omega), ?_⟩)
        refine hK12 _ ?_
        clear hK12 K12
        refine AT_seq_k fun K13 hK13 => ?_
        refine AT_seq_region fun K14 hK14 => ?_
        simp [hls]
        repeat (refine ⟨by first | omega | (simp at *; omega), ?_⟩)
        refine hK14 _ ?_
        clear hK14 K14
        refine AT_cond (b := false) (g := none) (by simp [hls]) (fun hb => ?_) (fun hb => ?_)
        ·
          cases hb
        ·
          clear hb
          refine AT_skip ?_
          try simp only [thenA, inBlockA, ite_true, ite_false, reduceIte, Nat.reduceEqDiff]
          refine hK13 _ ?_
          refine AT_seq_region fun K15 hK15 => ?_
          simp [hls]
          repeat (refine ⟨by first | omega | (simp at *; omega), ?_⟩)
          try (
            refine RVn_call (hloc) ?_
            simp [hls]
            repeat (refine ⟨by first | omega | (simp at *; omega), ?_⟩))
          refine hK15 _ ?_
          clear hK15 K15
          refine AT_ret ?_
          simp [Tryd.f5]

theorem c_law01x_NameLocals (n : Int) (h0 : -9223372036854775808 ≤ n) (h1 : n ≤ 9223372036854775807) (hres : g 0 = some reservedA) (htab : g 3 = some pow10A) (hers : ∃ x, g 1 = some [.iface 78 x]) (herr : ∃ x, g 2 = some [.iface 78 x]) : Valid Tryd.prog (G0 g rnd) 4 [.int .i64 n] (.bool true) := by
  have hsl := locS_len h1
  refine valid_of [] Tryd.func4 rfl (by kernel_rfl) ?_
  refine AT_seq_region fun K1 hK1 => ?_
  simp [Tryd.f4]
  repeat (refine ⟨by first | omega | (simp at *; omega), ?_⟩)
  refine hK1 _ ?_
  clear hK1 K1
  refine AT_seq_k fun K2 hK2 => ?_
  refine AT_seq_region fun K3 hK3 => ?_
  simp
  repeat (refine ⟨by first | omega | (simp at *; omega), ?_⟩)
  refine RVn_call (c_law01x_awake g rnd hres htab hers herr) ?_
  simp
  repeat (refine ⟨by first | omega | (simp at *; omega), ?_⟩)
  refine hK3 _ ?_
  clear hK3 K3
  refine AT_cond (b := false) (g := none) (by simp) (fun hb => ?_) (fun hb => ?_)
  ·
    cases hb
  ·
    clear hb
    refine AT_skip ?_
    try simp only [thenA, inBlockA, ite_true, ite_false, reduceIte, Nat.reduceEqDiff]
    refine hK2 _ ?_
    have hix := c_name_Index g rnd (locS n) (by omega) htab hers herr
    unfold locI at hix
    rcases Int.lt_or_le n 0 with hneg | hneg
    ·
      have hnil : locS n = [] := by unfold locS; rw [if_pos hneg]
      have hemp : ((locS n) == []) = true := by rw [hnil]; rfl
      rw [hnil] at hix
      simp only [locOf, Option.isSome_none] at hix
      rw [← hnil] at hix
      refine AT_seq_region fun K4 hK4 => ?_
      simp [hneg, hemp]
      repeat (refine ⟨by first | omega | (simp at *; omega), ?_⟩)
      refine RVn_call (c_name_Local g rnd _ h0 h1 htab) ?_
      simp [hneg, hemp]
      repeat (refine ⟨by first | omega | (simp at *; omega), ?_⟩)
      refine hK4 _ ?_
      clear hK4 K4
      refine AT_seq_region fun K5 hK5 => ?_
      simp [hneg, hemp]
      repeat (refine ⟨by first | omega | (simp at *; omega), ?_⟩)
      refine RVn_call (hix) ?_
      simp [hneg, hemp]
      repeat (refine ⟨by first | omega | (simp at *; omega), ?_⟩)
      refine hK5 _ ?_
      clear hK5 K5
      refine AT_seq_k fun K6 hK6 => ?_
      refine AT_seq_region fun K7 hK7 => ?_
      simp [hneg, hemp]
      repeat (refine ⟨by first | omega | (simp at *; omega), ?_⟩)
      refine hK7 _ ?_
      clear hK7 K7
      refine AT_cond (b := true) (g := none) (by simp [hneg, hemp]) (fun hb => ?_) (fun hb => ?_)
      ·
        clear hb
        refine AT_seq_region fun K8 hK8 => ?_
        simp [hneg, hemp]
        repeat (refine ⟨by first | omega | (simp at *; omega), ?_⟩)
        refine hK8 _ ?_
        clear hK8 K8
        refine AT_ret ?_
        simp [Tryd.f4]
      ·
        cases hb
    ·
      obtain ⟨m, rfl⟩ := Int.eq_ofNat_of_zero_le hneg
      have hnn : ¬ (m : Int) < 0 := by omega
      have his := c_name_Is g rnd (locS (m : Int)) (by omega) hres
      rw [notName_loc] at his
      by_cases hmx : m ≤ 2147483647
      ·
        have hmi : (m : Int) ≤ 2147483647 := by omega
        have hlo : locOf (locS (m : Int)) = some m := by rw [locS_nat]; exact locOf_dec hmx
        rw [hlo] at hix
        simp only [Option.isSome_some] at hix
        refine AT_seq_region fun K9 hK9 => ?_
        simp [hnn, hmi]
        repeat (refine ⟨by first | omega | (simp at *; omega), ?_⟩)
        refine RVn_call (c_name_Local g rnd _ h0 h1 htab) ?_
        simp [hnn, hmi]
        repeat (refine ⟨by first | omega | (simp at *; omega), ?_⟩)
        refine hK9 _ ?_
        clear hK9 K9
        refine AT_seq_region fun K10 hK10 => ?_
        simp [hnn, hmi]
        repeat (refine ⟨by first | omega | (simp at *; omega), ?_⟩)
        refine RVn_call (hix) ?_
        simp [hnn, hmi]
        repeat (refine ⟨by first | omega | (simp at *; omega), ?_⟩)
        refine hK10 _ ?_
        clear hK10 K10
        refine AT_seq_k fun K11 hK11 => ?_
        refine AT_seq_region fun K12 hK12 => ?_
        simp [hnn, hmi]
        repeat (refine ⟨by first | omega | (simp at *; omega), ?_⟩)
        refine hK12 _ ?_
        clear hK12 K12
        refine AT_cond (b := false) (g := none) (by simp [hnn, hmi]) (fun hb => ?_) (fun hb => ?_)
        ·
          cases hb
        ·
          clear hb
          refine AT_skip ?_
          try simp only [thenA, inBlockA, ite_true, ite_false, reduceIte, Nat.reduceEqDiff]
          refine hK11 _ ?_
          refine AT_seq_region fun K13 hK13 => ?_
          simp [hnn, hmi]
          repeat (refine ⟨by first | omega | (simp at *; omega), ?_⟩)
          try (
            refine RVn_call (c_ref01x_Local g rnd (m : Int) h1) ?_
            simp [hnn, hmi]
            repeat (refine ⟨by first | omega | (simp at *; omega), ?_⟩))
          try (
            refine RVn_call (his) ?_
            simp [hnn, hmi]
            repeat (refine ⟨by first | omega | (simp at *; omega), ?_⟩))
          refine hK13 _ ?_
          clear hK13 K13
          refine AT_ret ?_
          simp [Tryd.f4]
      ·
        have hmi : ¬ (m : Int) ≤ 2147483647 := by omega
        have hlo : locOf (locS (m : Int)) = none := by rw [locS_nat]; exact locOf_big hmx
        rw [hlo] at hix
        simp only [Option.isSome_none] at hix
        refine AT_seq_region fun K14 hK14 => ?_
        simp [hnn, hmi]
        repeat (refine ⟨by first | omega | (simp at *; omega), ?_⟩)
        refine RVn_call (c_name_Local g rnd _ h0 h1 htab) ?_
        simp [hnn, hmi]
        repeat (refine ⟨by first | omega | (simp at *; omega), ?_⟩)
        refine hK14 _ ?_
        clear hK14 K14
        refine AT_seq_region fun K15 hK15 => ?_
        simp [hnn, hmi]
        repeat (refine ⟨by first | omega | (simp at *; omega), ?_⟩)
        refine RVn_call (hix) ?_
        simp [hnn, hmi]
        repeat (refine ⟨by first | omega | (simp at *; omega), ?_⟩)
        refine hK15 _ ?_
        clear hK15 K15
        refine AT_seq_k fun K16 hK16 => ?_
        refine AT_seq_region fun K17 hK17 => ?_
        simp [hnn, hmi]
        repeat (refine ⟨by first | omega | (simp at *; omega), ?_⟩)
        refine hK17 _ ?_
        clear hK17 K17
        refine AT_cond (b := false) (g := none) (by simp [hnn, hmi]) (fun hb => ?_) (fun hb => ?_)
        ·
          cases hb
        ·
          clear hb
          refine AT_skip ?_
          try simp only [thenA, inBlockA, ite_true, ite_false, reduceIte, Nat.reduceEqDiff]
          refine hK16 _ ?_
          refine AT_seq_region fun K18 hK18 => ?_
          simp [hnn, hmi]
          repeat (refine ⟨by first | omega | (simp at *; omega), ?_⟩)
          try (
            refine RVn_call (c_ref01x_Local g rnd (m : Int) h1) ?_
            simp [hnn, hmi]
            repeat (refine ⟨by first | omega | (simp at *; omega), ?_⟩))
          try (
            refine RVn_call (his) ?_
            simp [hnn, hmi]
            repeat (refine ⟨by first | omega | (simp at *; omega), ?_⟩))
          refine hK18 _ ?_
          clear hK18 K18
          refine AT_ret ?_
          simp [Tryd.f4]

end Go.Proofs.YtngpggbigjeehaaDoor

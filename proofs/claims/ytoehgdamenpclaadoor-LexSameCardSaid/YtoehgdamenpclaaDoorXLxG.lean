/- The laws of the lexer. -/
import Derived.Test.YtoehgdamenpclaaDoorPt
import Derived.Test.YtoehgdamenpclaaDoorPvLc
import Derived.Test.YtoehgdamenpclaaDoorPvX
import Derived.Test.YtoehgdamenpclaaDoorXLxF
import Derived.Test.YtoehgdamenpclaaDoorXLxE
import Derived.Test.YtoehgdamenpclaaDoorXLxD
import Derived.Test.YtoehgdamenpclaaDoorXLxC
import Derived.Test.YtoehgdamenpclaaDoorXLxA
import Derived.Test.YtoehgdamenpclaaDoorXErA
set_option linter.all false
set_option maxHeartbeats 1000000
set_option maxRecDepth 10000
namespace Go.Proofs.YtoehgdamenpclaaDoor
open Go Go.Pv
variable (g : Nat → Option (List AV)) (rnd : Bool)

def awL : List Tk := [(1, [97], 0), (2, [46], 1), (2, [95], 2), (3, [], 8)]
theorem aw1 : lexT [97, 46, 95, 32, 47, 47, 32, 120] = (some awL, 0) := by decide
theorem aw2 : lexT [97, 32, 47, 32, 98] = (none, 2) := by decide
theorem tok1 {s : Str} {x : Option (List Tk) × Nat} (hx : lexT s = x) (hs : s.length ≤ 1000000) : Valid Tryd.prog (G0 g rnd) 9 [.str s] (lexV 64 x) := by rw [← hx]; exact c_lex_Tokens g rnd s (by omega)
theorem tok3 {s : Str} {x : Option (List Tk) × Nat} (hx : lexT s = x) (hs : s.length ≤ 1000000) : Valid Tryd.prog (G0 g rnd) 10 [.str s] (lexR x) := by rw [← hx]; exact c_ref03x_Tokens g rnd s (by omega)

theorem c_law03x_awake (hty : g 0 = some errTy) : Valid Tryd.prog (G0 g rnd) 8 [] (.bool true) := by

  refine valid_of [] Tryd.func8 rfl (by kernel_rfl) ?_
  refine AT_seq_region fun K1 hK1 => ?_
  simp [lexV, Tryd.f8]
  repeat (refine ⟨by first | omega | assumption | exact Rows_map _ _ encK_cells _ | (simp at *; omega), ?_⟩)
  refine hK1 _ ?_
  clear hK1 K1
  refine AT_seq_region fun K2 hK2 => ?_
  simp [lexV]
  repeat (refine ⟨by first | omega | assumption | exact Rows_map _ _ encK_cells _ | (simp at *; omega), ?_⟩)
  refine RVn_call (tok1 g rnd aw1 (by decide)) ?_
  simp [lexV]
  repeat (refine ⟨by first | omega | assumption | exact Rows_map _ _ encK_cells _ | (simp at *; omega), ?_⟩)
  refine hK2 _ ?_
  clear hK2 K2
  refine AT_seq_region fun K3 hK3 => ?_
  simp [lexV]
  repeat (refine ⟨by first | omega | assumption | exact Rows_map _ _ encK_cells _ | (simp at *; omega), ?_⟩)
  refine RVn_call (tok1 g rnd aw2 (by decide)) ?_
  simp [lexV]
  repeat (refine ⟨by first | omega | assumption | exact Rows_map _ _ encK_cells _ | (simp at *; omega), ?_⟩)
  refine hK3 _ ?_
  clear hK3 K3
  refine AT_seq_region fun K4 hK4 => ?_
  simp [lexV]
  repeat (refine ⟨by first | omega | assumption | exact Rows_map _ _ encK_cells _ | (simp at *; omega), ?_⟩)
  refine RVn_call ((by have h := c_lex_Line g rnd [97, 10, 98] 2 (by decide) (by decide); exact h : Valid Tryd.prog (G0 g rnd) 18 [.str [97, 10, 98], .int .i64 2] (.tup [.int .i64 2, .int .i64 1]))) ?_
  simp [lexV]
  repeat (refine ⟨by first | omega | assumption | exact Rows_map _ _ encK_cells _ | (simp at *; omega), ?_⟩)
  refine hK4 _ ?_
  clear hK4 K4
  refine AT_seq_region fun K5 hK5 => ?_
  simp [lexV]
  repeat (refine ⟨by first | omega | assumption | exact Rows_map _ _ encK_cells _ | (simp at *; omega), ?_⟩)
  refine RVn_call (c_law03x_plain g rnd awL (by decide)) ?_
  simp [lexV]
  repeat (refine ⟨by first | omega | assumption | exact Rows_map _ _ encK_cells _ | (simp at *; omega), ?_⟩)
  refine RVn_call ((by have h := c_ref03x_Same g rnd awL (by decide); exact h : Valid Tryd.prog (G0 g rnd) 12 [(.slice (awL.map encK)), .slice [[.int .i64 1, .str [97], .int .i64 0], [.int .i64 2, .str [46], .int .i64 1], [.int .i64 2, .str [95], .int .i64 2], [.int .i64 3, .str [], .int .i64 8]]] (.bool true))) ?_
  simp [lexV]
  repeat (refine ⟨by first | omega | assumption | exact Rows_map _ _ encK_cells _ | (simp at *; omega), ?_⟩)
  refine RVn_call (c_law03x_told g rnd 2 hty) ?_
  simp [lexV]
  repeat (refine ⟨by first | omega | assumption | exact Rows_map _ _ encK_cells _ | (simp at *; omega), ?_⟩)
  refine RVn_call ((by have h := c_lex_Join g rnd awL (by decide); exact h : Valid Tryd.prog (G0 g rnd) 14 [(.slice (awL.map encK))] (.str [97, 32, 46, 32, 95]))) ?_
  simp [lexV]
  repeat (refine ⟨by first | omega | assumption | exact Rows_map _ _ encK_cells _ | (simp at *; omega), ?_⟩)
  refine RVn_call ((by have h := c_lex_Same g rnd awL awL (by decide); exact h : Valid Tryd.prog (G0 g rnd) 16 [(.slice (awL.map encK)), (.slice (awL.map encK))] (.bool true))) ?_
  simp [lexV]
  repeat (refine ⟨by first | omega | assumption | exact Rows_map _ _ encK_cells _ | (simp at *; omega), ?_⟩)
  refine hK5 _ ?_
  clear hK5 K5
  refine AT_ret ?_
  simp [lexV, Tryd.f8]

theorem c_law03x_LexMatchesReference (s : Str) (hty : g 0 = some errTy) : Valid Tryd.prog (G0 g rnd) 3 [.str s] (.bool true) := by

  refine valid_of [] Tryd.func3 rfl (by kernel_rfl) ?_
  refine AT_seq_region fun K1 hK1 => ?_
  simp [lexV, lexR, Tryd.f3]
  repeat (refine ⟨by first | omega | assumption | exact Rows_map _ _ encK_cells _ | (simp at *; omega), ?_⟩)
  refine hK1 _ ?_
  clear hK1 K1
  refine AT_seq_k fun K2 hK2 => ?_
  by_cases hbig : (5000 : Int) < s.length
  ·
    refine AT_seq_region fun K3 hK3 => ?_
    simp [lexV, lexR, hbig]
    repeat (refine ⟨by first | omega | assumption | exact Rows_map _ _ encK_cells _ | (simp at *; omega), ?_⟩)
    refine RVn_call (c_law03x_awake g rnd hty) ?_
    simp [lexV, lexR, hbig]
    repeat (refine ⟨by first | omega | assumption | exact Rows_map _ _ encK_cells _ | (simp at *; omega), ?_⟩)
    refine hK3 _ ?_
    clear hK3 K3
    refine AT_cond (b := true) (g := none) (by simp [hbig]) (fun hb => ?_) (fun hb => ?_)
    ·
      clear hb
      refine AT_seq_region fun K4 hK4 => ?_
      simp [lexV, lexR, hbig]
      repeat (refine ⟨by first | omega | assumption | exact Rows_map _ _ encK_cells _ | (simp at *; omega), ?_⟩)
      refine RVn_call (c_law03x_awake g rnd hty) ?_
      simp [lexV, lexR, hbig]
      repeat (refine ⟨by first | omega | assumption | exact Rows_map _ _ encK_cells _ | (simp at *; omega), ?_⟩)
      refine hK4 _ ?_
      clear hK4 K4
      refine AT_ret ?_
      simp [lexV, lexR, Tryd.f3]
    ·
      cases hb
  ·
    refine AT_seq_region fun K5 hK5 => ?_
    simp [lexV, lexR, hbig]
    repeat (refine ⟨by first | omega | assumption | exact Rows_map _ _ encK_cells _ | (simp at *; omega), ?_⟩)
    refine RVn_call (c_law03x_awake g rnd hty) ?_
    simp [lexV, lexR, hbig]
    repeat (refine ⟨by first | omega | assumption | exact Rows_map _ _ encK_cells _ | (simp at *; omega), ?_⟩)
    refine hK5 _ ?_
    clear hK5 K5
    refine AT_cond (b := false) (g := none) (by simp [hbig]) (fun hb => ?_) (fun hb => ?_)
    ·
      cases hb
    ·
      clear hb
      refine AT_skip ?_
      try simp only [thenA, inBlockA, noGotoA, ite_true, ite_false, reduceIte, Nat.reduceEqDiff]
      refine hK2 _ ?_
      rcases hx : lexT s with ⟨_ | l, n⟩
      ·
        refine AT_seq_region fun K6 hK6 => ?_
        simp [lexV, lexR, hbig]
        repeat (refine ⟨by first | omega | assumption | exact Rows_map _ _ encK_cells _ | (simp at *; omega), ?_⟩)
        refine RVn_call (tok1 g rnd hx (by omega)) ?_
        simp [lexV, lexR, hbig]
        repeat (refine ⟨by first | omega | assumption | exact Rows_map _ _ encK_cells _ | (simp at *; omega), ?_⟩)
        refine hK6 _ ?_
        clear hK6 K6
        refine AT_seq_region fun K7 hK7 => ?_
        simp [lexV, lexR, hbig]
        repeat (refine ⟨by first | omega | assumption | exact Rows_map _ _ encK_cells _ | (simp at *; omega), ?_⟩)
        refine RVn_call (tok3 g rnd hx (by omega)) ?_
        simp [lexV, lexR, hbig]
        repeat (refine ⟨by first | omega | assumption | exact Rows_map _ _ encK_cells _ | (simp at *; omega), ?_⟩)
        refine hK7 _ ?_
        clear hK7 K7
        refine AT_seq_k fun K8 hK8 => ?_
        refine AT_seq_region fun K9 hK9 => ?_
        simp [lexV, lexR, hbig]
        repeat (refine ⟨by first | omega | assumption | exact Rows_map _ _ encK_cells _ | (simp at *; omega), ?_⟩)
        refine hK9 _ ?_
        clear hK9 K9
        refine AT_cond (b := true) (g := none) (by simp [hbig]) (fun hb => ?_) (fun hb => ?_)
        ·
          clear hb
          refine AT_seq_region fun K10 hK10 => ?_
          simp [lexV, lexR, hbig]
          repeat (refine ⟨by first | omega | assumption | exact Rows_map _ _ encK_cells _ | (simp at *; omega), ?_⟩)
          refine RVn_call (c_law03x_told g rnd _ hty) ?_
          simp [lexV, lexR, hbig]
          repeat (refine ⟨by first | omega | assumption | exact Rows_map _ _ encK_cells _ | (simp at *; omega), ?_⟩)
          refine hK10 _ ?_
          clear hK10 K10
          refine AT_ret ?_
          simp [lexV, lexR, Tryd.f3]
        ·
          cases hb
      ·
        obtain ⟨hx1, hx2, hx3, hx4, hx5⟩ := lexT_some (by omega) hx
        refine AT_seq_region fun K11 hK11 => ?_
        simp [lexV, lexR, hbig]
        repeat (refine ⟨by first | omega | assumption | exact Rows_map _ _ encK_cells _ | (simp at *; omega), ?_⟩)
        refine RVn_call (tok1 g rnd hx (by omega)) ?_
        simp [lexV, lexR, hbig]
        repeat (refine ⟨by first | omega | assumption | exact Rows_map _ _ encK_cells _ | (simp at *; omega), ?_⟩)
        refine hK11 _ ?_
        clear hK11 K11
        refine AT_seq_region fun K12 hK12 => ?_
        simp [lexV, lexR, hbig]
        repeat (refine ⟨by first | omega | assumption | exact Rows_map _ _ encK_cells _ | (simp at *; omega), ?_⟩)
        refine RVn_call (tok3 g rnd hx (by omega)) ?_
        simp [lexV, lexR, hbig]
        repeat (refine ⟨by first | omega | assumption | exact Rows_map _ _ encK_cells _ | (simp at *; omega), ?_⟩)
        refine hK12 _ ?_
        clear hK12 K12
        refine AT_seq_k fun K13 hK13 => ?_
        refine AT_seq_region fun K14 hK14 => ?_
        simp [lexV, lexR, hbig]
        repeat (refine ⟨by first | omega | assumption | exact Rows_map _ _ encK_cells _ | (simp at *; omega), ?_⟩)
        refine hK14 _ ?_
        clear hK14 K14
        refine AT_cond (b := false) (g := none) (by simp [hbig]) (fun hb => ?_) (fun hb => ?_)
        ·
          cases hb
        ·
          clear hb
          refine AT_skip ?_
          try simp only [thenA, inBlockA, noGotoA, ite_true, ite_false, reduceIte, Nat.reduceEqDiff]
          refine hK13 _ ?_
          refine AT_seq_draw Pt.mixed (by kernel_rfl) fun K15 hK15 => ?_
          simp [lexV, lexR, hbig]
          repeat (refine ⟨by first | omega | assumption | exact Rows_map _ _ encK_cells _ | (simp at *; omega), ?_⟩)
          refine RVdn_call (c_law03x_plain g rnd l (by omega)) ?_
          simp [lexV, lexR, hbig]
          repeat (refine ⟨by first | omega | assumption | exact Rows_map _ _ encK_cells _ | (simp at *; omega), ?_⟩)
          refine RVdn_call (c_ref03x_Same g rnd l (by omega)) ?_
          simp [lexV, lexR, hbig]
          repeat (refine ⟨by first | omega | assumption | exact Rows_map _ _ encK_cells _ | (simp at *; omega), ?_⟩)
          refine hK15 _ ?_
          clear hK15 K15
          refine AT_ret ?_
          simp [lexV, lexR, Tryd.f3]

theorem c_law03x_LexJoins (s : Str) (hty : g 0 = some errTy) : Valid Tryd.prog (G0 g rnd) 4 [.str s] (.bool true) := by

  refine valid_of [] Tryd.func4 rfl (by kernel_rfl) ?_
  refine AT_seq_region fun K1 hK1 => ?_
  simp [lexV, lexR, Tryd.f4]
  repeat (refine ⟨by first | omega | assumption | exact Rows_map _ _ encK_cells _ | (simp at *; omega), ?_⟩)
  refine hK1 _ ?_
  clear hK1 K1
  refine AT_seq_k fun K2 hK2 => ?_
  by_cases hbig : (3000 : Int) < s.length
  ·
    refine AT_seq_region fun K3 hK3 => ?_
    simp [lexV, lexR, hbig]
    repeat (refine ⟨by first | omega | assumption | exact Rows_map _ _ encK_cells _ | (simp at *; omega), ?_⟩)
    refine RVn_call (c_law03x_awake g rnd hty) ?_
    simp [lexV, lexR, hbig]
    repeat (refine ⟨by first | omega | assumption | exact Rows_map _ _ encK_cells _ | (simp at *; omega), ?_⟩)
    refine hK3 _ ?_
    clear hK3 K3
    refine AT_cond (b := true) (g := none) (by simp [hbig]) (fun hb => ?_) (fun hb => ?_)
    ·
      clear hb
      refine AT_seq_region fun K4 hK4 => ?_
      simp [lexV, lexR, hbig]
      repeat (refine ⟨by first | omega | assumption | exact Rows_map _ _ encK_cells _ | (simp at *; omega), ?_⟩)
      refine RVn_call (c_law03x_awake g rnd hty) ?_
      simp [lexV, lexR, hbig]
      repeat (refine ⟨by first | omega | assumption | exact Rows_map _ _ encK_cells _ | (simp at *; omega), ?_⟩)
      refine hK4 _ ?_
      clear hK4 K4
      refine AT_ret ?_
      simp [lexV, lexR, Tryd.f4]
    ·
      cases hb
  ·
    refine AT_seq_region fun K5 hK5 => ?_
    simp [lexV, lexR, hbig]
    repeat (refine ⟨by first | omega | assumption | exact Rows_map _ _ encK_cells _ | (simp at *; omega), ?_⟩)
    refine RVn_call (c_law03x_awake g rnd hty) ?_
    simp [lexV, lexR, hbig]
    repeat (refine ⟨by first | omega | assumption | exact Rows_map _ _ encK_cells _ | (simp at *; omega), ?_⟩)
    refine hK5 _ ?_
    clear hK5 K5
    refine AT_cond (b := false) (g := none) (by simp [hbig]) (fun hb => ?_) (fun hb => ?_)
    ·
      cases hb
    ·
      clear hb
      refine AT_skip ?_
      try simp only [thenA, inBlockA, noGotoA, ite_true, ite_false, reduceIte, Nat.reduceEqDiff]
      refine hK2 _ ?_
      rcases hx : lexT s with ⟨_ | l, n⟩
      ·
        refine AT_seq_region fun K6 hK6 => ?_
        simp [lexV, lexR, hbig]
        repeat (refine ⟨by first | omega | assumption | exact Rows_map _ _ encK_cells _ | (simp at *; omega), ?_⟩)
        refine RVn_call (tok1 g rnd hx (by omega)) ?_
        simp [lexV, lexR, hbig]
        repeat (refine ⟨by first | omega | assumption | exact Rows_map _ _ encK_cells _ | (simp at *; omega), ?_⟩)
        refine hK6 _ ?_
        clear hK6 K6
        refine AT_seq_k fun K7 hK7 => ?_
        refine AT_seq_region fun K8 hK8 => ?_
        simp [lexV, lexR, hbig]
        repeat (refine ⟨by first | omega | assumption | exact Rows_map _ _ encK_cells _ | (simp at *; omega), ?_⟩)
        refine hK8 _ ?_
        clear hK8 K8
        refine AT_cond (b := true) (g := none) (by simp [hbig]) (fun hb => ?_) (fun hb => ?_)
        ·
          clear hb
          refine AT_seq_region fun K9 hK9 => ?_
          simp [lexV, lexR, hbig]
          repeat (refine ⟨by first | omega | assumption | exact Rows_map _ _ encK_cells _ | (simp at *; omega), ?_⟩)
          refine RVn_call (tok3 g rnd hx (by omega)) ?_
          simp [lexV, lexR, hbig]
          repeat (refine ⟨by first | omega | assumption | exact Rows_map _ _ encK_cells _ | (simp at *; omega), ?_⟩)
          refine hK9 _ ?_
          clear hK9 K9
          refine AT_ret ?_
          simp [lexV, lexR, Tryd.f4]
        ·
          cases hb
      ·
        obtain ⟨hx1, hx2, hx3, hx4, hx5⟩ := lexT_some (by omega) hx
        obtain ⟨m, q, hm1, hm2, hm3, hm4, hm5⟩ := relexT (by omega) hx
        refine AT_seq_region fun K10 hK10 => ?_
        simp [lexV, lexR, hbig, hm2, hm3, hm4]
        repeat (refine ⟨by first | omega | assumption | exact Rows_map _ _ encK_cells _ | (simp at *; omega), ?_⟩)
        refine RVn_call (tok1 g rnd hx (by omega)) ?_
        simp [lexV, lexR, hbig, hm2, hm3, hm4]
        repeat (refine ⟨by first | omega | assumption | exact Rows_map _ _ encK_cells _ | (simp at *; omega), ?_⟩)
        refine hK10 _ ?_
        clear hK10 K10
        refine AT_seq_k fun K11 hK11 => ?_
        refine AT_seq_region fun K12 hK12 => ?_
        simp [lexV, lexR, hbig, hm2, hm3, hm4]
        repeat (refine ⟨by first | omega | assumption | exact Rows_map _ _ encK_cells _ | (simp at *; omega), ?_⟩)
        refine hK12 _ ?_
        clear hK12 K12
        refine AT_cond (b := false) (g := none) (by simp [hbig, hm2, hm3, hm4]) (fun hb => ?_) (fun hb => ?_)
        ·
          cases hb
        ·
          clear hb
          refine AT_skip ?_
          try simp only [thenA, inBlockA, noGotoA, ite_true, ite_false, reduceIte, Nat.reduceEqDiff]
          refine hK11 _ ?_
          refine AT_seq_region fun K13 hK13 => ?_
          simp [lexV, lexR, hbig, hm2, hm3, hm4]
          repeat (refine ⟨by first | omega | assumption | exact Rows_map _ _ encK_cells _ | (simp at *; omega), ?_⟩)
          refine RVn_call (tok3 g rnd hx (by omega)) ?_
          simp [lexV, lexR, hbig, hm2, hm3, hm4]
          repeat (refine ⟨by first | omega | assumption | exact Rows_map _ _ encK_cells _ | (simp at *; omega), ?_⟩)
          refine hK13 _ ?_
          clear hK13 K13
          refine AT_seq_region fun K14 hK14 => ?_
          simp [lexV, lexR, hbig, hm2, hm3, hm4]
          repeat (refine ⟨by first | omega | assumption | exact Rows_map _ _ encK_cells _ | (simp at *; omega), ?_⟩)
          refine RVn_call (c_lex_Join g rnd l (by omega)) ?_
          simp [lexV, lexR, hbig, hm2, hm3, hm4]
          repeat (refine ⟨by first | omega | assumption | exact Rows_map _ _ encK_cells _ | (simp at *; omega), ?_⟩)
          refine hK14 _ ?_
          clear hK14 K14
          refine AT_seq_region fun K15 hK15 => ?_
          simp [lexV, lexR, hbig, hm2, hm3, hm4]
          repeat (refine ⟨by first | omega | assumption | exact Rows_map _ _ encK_cells _ | (simp at *; omega), ?_⟩)
          refine RVn_call (tok1 g rnd hm1 (by omega)) ?_
          simp [lexV, lexR, hbig, hm2, hm3, hm4]
          repeat (refine ⟨by first | omega | assumption | exact Rows_map _ _ encK_cells _ | (simp at *; omega), ?_⟩)
          refine hK15 _ ?_
          clear hK15 K15
          refine AT_seq_draw Pt.mixed (by kernel_rfl) fun K16 hK16 => ?_
          simp [lexV, lexR, hbig, hm2, hm3, hm4]
          repeat (refine ⟨by first | omega | assumption | exact Rows_map _ _ encK_cells _ | (simp at *; omega), ?_⟩)
          refine RVdn_call (c_ref03x_Join g rnd l (by omega)) ?_
          simp [lexV, lexR, hbig, hm2, hm3, hm4]
          repeat (refine ⟨by first | omega | assumption | exact Rows_map _ _ encK_cells _ | (simp at *; omega), ?_⟩)
          refine RVdn_call (c_lex_Same g rnd l m (by omega)) ?_
          simp [lexV, lexR, hbig, hm2, hm3, hm4]
          repeat (refine ⟨by first | omega | assumption | exact Rows_map _ _ encK_cells _ | (simp at *; omega), ?_⟩)
          refine RVdn_call (c_law03x_plain g rnd m (by omega)) ?_
          simp [lexV, lexR, hbig, hm2, hm3, hm4]
          repeat (refine ⟨by first | omega | assumption | exact Rows_map _ _ encK_cells _ | (simp at *; omega), ?_⟩)
          refine RVdn_call (c_ref03x_Alike g rnd m l (by omega)) ?_
          simp [lexV, lexR, hbig, hm2, hm3, hm4]
          repeat (refine ⟨by first | omega | assumption | exact Rows_map _ _ encK_cells _ | (simp at *; omega), ?_⟩)
          refine hK16 _ ?_
          clear hK16 K16
          refine AT_ret ?_
          simp [lexV, lexR, Tryd.f4]

theorem c_law03x_LexLines (s : Str) (i : Int) (hi : -9223372036854775808 ≤ i ∧ i ≤ 9223372036854775807) (hty : g 0 = some errTy) : Valid Tryd.prog (G0 g rnd) 5 [.str s, .int .i64 i] (.bool true) := by

  refine valid_of [] Tryd.func5 rfl (by kernel_rfl) ?_
  refine AT_seq_region fun K1 hK1 => ?_
  simp [clampN_if, Tryd.f5]
  repeat (refine ⟨by first | omega | assumption | exact Rows_map _ _ encK_cells _ | (simp at *; omega), ?_⟩)
  refine hK1 _ ?_
  clear hK1 K1
  refine AT_seq_k fun K2 hK2 => ?_
  by_cases hbig : (3000 : Int) < s.length
  ·
    refine AT_seq_region fun K3 hK3 => ?_
    simp [clampN_if, hbig]
    repeat (refine ⟨by first | omega | assumption | exact Rows_map _ _ encK_cells _ | (simp at *; omega), ?_⟩)
    refine RVn_call (c_law03x_awake g rnd hty) ?_
    simp [clampN_if, hbig]
    repeat (refine ⟨by first | omega | assumption | exact Rows_map _ _ encK_cells _ | (simp at *; omega), ?_⟩)
    refine hK3 _ ?_
    clear hK3 K3
    refine AT_cond (b := true) (g := none) (by simp [hbig]) (fun hb => ?_) (fun hb => ?_)
    ·
      clear hb
      refine AT_seq_region fun K4 hK4 => ?_
      simp [clampN_if, hbig]
      repeat (refine ⟨by first | omega | assumption | exact Rows_map _ _ encK_cells _ | (simp at *; omega), ?_⟩)
      refine RVn_call (c_law03x_awake g rnd hty) ?_
      simp [clampN_if, hbig]
      repeat (refine ⟨by first | omega | assumption | exact Rows_map _ _ encK_cells _ | (simp at *; omega), ?_⟩)
      refine hK4 _ ?_
      clear hK4 K4
      refine AT_ret ?_
      simp [clampN_if, Tryd.f5]
    ·
      cases hb
  ·
    refine AT_seq_region fun K5 hK5 => ?_
    simp [clampN_if, hbig]
    repeat (refine ⟨by first | omega | assumption | exact Rows_map _ _ encK_cells _ | (simp at *; omega), ?_⟩)
    refine RVn_call (c_law03x_awake g rnd hty) ?_
    simp [clampN_if, hbig]
    repeat (refine ⟨by first | omega | assumption | exact Rows_map _ _ encK_cells _ | (simp at *; omega), ?_⟩)
    refine hK5 _ ?_
    clear hK5 K5
    refine AT_cond (b := false) (g := none) (by simp [hbig]) (fun hb => ?_) (fun hb => ?_)
    ·
      cases hb
    ·
      clear hb
      refine AT_skip ?_
      try simp only [thenA, inBlockA, noGotoA, ite_true, ite_false, reduceIte, Nat.reduceEqDiff]
      refine hK2 _ ?_
      refine AT_seq_region fun K6 hK6 => ?_
      simp [clampN_if, hbig]
      repeat (refine ⟨by first | omega | assumption | exact Rows_map _ _ encK_cells _ | (simp at *; omega), ?_⟩)
      refine RVn_call (c_lex_Line g rnd s i (by omega) hi) ?_
      simp [clampN_if, hbig]
      repeat (refine ⟨by first | omega | assumption | exact Rows_map _ _ encK_cells _ | (simp at *; omega), ?_⟩)
      refine hK6 _ ?_
      clear hK6 K6
      refine AT_seq_region fun K7 hK7 => ?_
      simp [clampN_if, hbig]
      repeat (refine ⟨by first | omega | assumption | exact Rows_map _ _ encK_cells _ | (simp at *; omega), ?_⟩)
      refine RVn_call (c_ref03x_Line g rnd s (clampN i s.length) (clampN_le _ _) (by omega)) ?_
      simp [clampN_if, hbig]
      repeat (refine ⟨by first | omega | assumption | exact Rows_map _ _ encK_cells _ | (simp at *; omega), ?_⟩)
      refine hK7 _ ?_
      clear hK7 K7
      refine AT_seq_region fun K8 hK8 => ?_
      simp [clampN_if, hbig]
      repeat (refine ⟨by first | omega | assumption | exact Rows_map _ _ encK_cells _ | (simp at *; omega), ?_⟩)
      refine hK8 _ ?_
      clear hK8 K8
      refine AT_ret ?_
      simp [clampN_if, Tryd.f5]

theorem c_law03x_LexSame (a b : List Tk) (hty : g 0 = some errTy) : Valid Tryd.prog (G0 g rnd) 6 [.slice (a.map encK), .slice (b.map encK)] (.bool true) := by

  refine valid_of [(5, 43), (7, 43)] Tryd.func6 rfl (by kernel_rfl) ?_
  refine AT_seq_region fun K1 hK1 => ?_
  simp [row_map, encK, alk_refl, Tryd.f6]
  repeat (refine ⟨by first | omega | assumption | exact Rows_map _ _ encK_cells _ | exact ⟨rows_takeK _ _, by omega⟩ | exact ⟨rows_takeK _ _, by simp; omega⟩ | (simp at *; omega), ?_⟩)
  refine hK1 _ ?_
  clear hK1 K1
  refine AT_seq_k fun K2 hK2 => ?_
  by_cases ha : (50 : Int) < a.length
  ·
    refine AT_seq_region fun K3 hK3 => ?_
    simp [row_map, encK, alk_refl, ha]
    repeat (refine ⟨by first | omega | assumption | exact Rows_map _ _ encK_cells _ | exact ⟨rows_takeK _ _, by omega⟩ | exact ⟨rows_takeK _ _, by simp; omega⟩ | (simp at *; omega), ?_⟩)
    refine RVn_call (c_law03x_awake g rnd hty) ?_
    simp [row_map, encK, alk_refl, ha]
    repeat (refine ⟨by first | omega | assumption | exact Rows_map _ _ encK_cells _ | exact ⟨rows_takeK _ _, by omega⟩ | exact ⟨rows_takeK _ _, by simp; omega⟩ | (simp at *; omega), ?_⟩)
    refine hK3 _ ?_
    clear hK3 K3
    refine AT_cond (b := true) (g := none) (by simp [ha]) (fun hb => ?_) (fun hb => ?_)
    ·
      clear hb
      refine AT_seq_region fun K4 hK4 => ?_
      simp [row_map, encK, alk_refl, ha]
      repeat (refine ⟨by first | omega | assumption | exact Rows_map _ _ encK_cells _ | exact ⟨rows_takeK _ _, by omega⟩ | exact ⟨rows_takeK _ _, by simp; omega⟩ | (simp at *; omega), ?_⟩)
      refine RVn_call (c_law03x_awake g rnd hty) ?_
      simp [row_map, encK, alk_refl, ha]
      repeat (refine ⟨by first | omega | assumption | exact Rows_map _ _ encK_cells _ | exact ⟨rows_takeK _ _, by omega⟩ | exact ⟨rows_takeK _ _, by simp; omega⟩ | (simp at *; omega), ?_⟩)
      refine hK4 _ ?_
      clear hK4 K4
      refine AT_ret ?_
      simp [row_map, encK, alk_refl, Tryd.f6]
    ·
      cases hb
  ·
    by_cases hb : (50 : Int) < b.length
    ·
      refine AT_seq_region fun K5 hK5 => ?_
      simp [row_map, encK, alk_refl, ha, hb]
      repeat (refine ⟨by first | omega | assumption | exact Rows_map _ _ encK_cells _ | exact ⟨rows_takeK _ _, by omega⟩ | exact ⟨rows_takeK _ _, by simp; omega⟩ | (simp at *; omega), ?_⟩)
      refine RVn_call (c_law03x_awake g rnd hty) ?_
      simp [row_map, encK, alk_refl, ha, hb]
      repeat (refine ⟨by first | omega | assumption | exact Rows_map _ _ encK_cells _ | exact ⟨rows_takeK _ _, by omega⟩ | exact ⟨rows_takeK _ _, by simp; omega⟩ | (simp at *; omega), ?_⟩)
      refine hK5 _ ?_
      clear hK5 K5
      refine AT_cond (b := true) (g := none) (by simp [ha, hb]) (fun hb => ?_) (fun hb => ?_)
      ·
        clear hb
        refine AT_seq_region fun K6 hK6 => ?_
        simp [row_map, encK, alk_refl, ha, hb]
        repeat (refine ⟨by first | omega | assumption | exact Rows_map _ _ encK_cells _ | exact ⟨rows_takeK _ _, by omega⟩ | exact ⟨rows_takeK _ _, by simp; omega⟩ | (simp at *; omega), ?_⟩)
        refine RVn_call (c_law03x_awake g rnd hty) ?_
        simp [row_map, encK, alk_refl, ha, hb]
        repeat (refine ⟨by first | omega | assumption | exact Rows_map _ _ encK_cells _ | exact ⟨rows_takeK _ _, by omega⟩ | exact ⟨rows_takeK _ _, by simp; omega⟩ | (simp at *; omega), ?_⟩)
        refine hK6 _ ?_
        clear hK6 K6
        refine AT_ret ?_
        simp [row_map, encK, alk_refl, Tryd.f6]
      ·
        cases hb
    ·
      refine AT_seq_region fun K7 hK7 => ?_
      simp [row_map, encK, alk_refl, ha, hb]
      repeat (refine ⟨by first | omega | assumption | exact Rows_map _ _ encK_cells _ | exact ⟨rows_takeK _ _, by omega⟩ | exact ⟨rows_takeK _ _, by simp; omega⟩ | (simp at *; omega), ?_⟩)
      refine RVn_call (c_law03x_awake g rnd hty) ?_
      simp [row_map, encK, alk_refl, ha, hb]
      repeat (refine ⟨by first | omega | assumption | exact Rows_map _ _ encK_cells _ | exact ⟨rows_takeK _ _, by omega⟩ | exact ⟨rows_takeK _ _, by simp; omega⟩ | (simp at *; omega), ?_⟩)
      refine hK7 _ ?_
      clear hK7 K7
      refine AT_cond (b := false) (g := none) (by simp [ha, hb]) (fun hb => ?_) (fun hb => ?_)
      ·
        cases hb
      ·
        clear hb
        refine AT_skip ?_
        try simp only [thenA, inBlockA, noGotoA, ite_true, ite_false, reduceIte, Nat.reduceEqDiff]
        refine hK2 _ ?_
        refine AT_seq_region fun K8 hK8 => ?_
        simp [row_map, encK, alk_refl, ha, hb]
        repeat (refine ⟨by first | omega | assumption | exact Rows_map _ _ encK_cells _ | exact ⟨rows_takeK _ _, by omega⟩ | exact ⟨rows_takeK _ _, by simp; omega⟩ | (simp at *; omega), ?_⟩)
        refine hK8 _ ?_
        clear hK8 K8
        refine AT_seq_k fun K9 hK9 => ?_
        refine AT_seq_region fun K10 hK10 => ?_
        simp [row_map, encK, alk_refl, ha, hb]
        repeat (refine ⟨by first | omega | assumption | exact Rows_map _ _ encK_cells _ | exact ⟨rows_takeK _ _, by omega⟩ | exact ⟨rows_takeK _ _, by simp; omega⟩ | (simp at *; omega), ?_⟩)
        refine hK10 _ ?_
        clear hK10 K10
        refine AT_block ?_
        refine AT_loop_q [0,1,5,6] [] (fun j s => ∃ k, k ≤ a.length ∧ j = a.length - k ∧ s = { n := 60, tm := [(0, .v (.slice (a.map encK)) none), (1, .v (.slice (b.map encK)) none), (5, .v (.slice ((a.take k).map encK)) (some (5, 43))), (6, .v (.int .i64 k) none)], bx := [], tb := [], sh := [], hint := [(5, 43), (7, 43)] }) (a.length) (by first | rfl | simp) ?_ ?_
        ·
          exact ⟨0, by simp⟩
        ·
          rintro j s ⟨k, hk, rfl, rfl⟩ K11 hK11
          refine AT_seq_k fun K12 hK12 => ?_
          refine AT_seq_region fun K13 hK13 => ?_
          simp [row_map, encK, alk_refl, ha, hb]
          repeat (refine ⟨by first | omega | assumption | exact Rows_map _ _ encK_cells _ | exact ⟨rows_takeK _ _, by omega⟩ | exact ⟨rows_takeK _ _, by simp; omega⟩ | (simp at *; omega), ?_⟩)
          refine hK13 _ ?_
          clear hK13 K13
          refine AT_cond (g := none) rfl (fun hb25 => ?_) (fun hb25 => ?_)
          ·
            try simp [row_map, encK, alk_refl, ha, hb] at hb25
            refine AT_skip ?_
            try simp only [thenA, inBlockA, noGotoA, ite_true, ite_false, reduceIte, Nat.reduceEqDiff]
            refine hK12 _ ?_
            refine AT_seq_k fun K14 hK14 => ?_
            refine AT_block ?_
            refine AT_region_q fun K15 hK15 => ?_
            simp [row_map, encK, alk_refl, ha, hb, hb25]
            repeat (refine ⟨by first | omega | assumption | exact Rows_map _ _ encK_cells _ | exact ⟨rows_takeK _ _, by omega⟩ | exact ⟨rows_takeK _ _, by simp; omega⟩ | (simp at *; omega), ?_⟩)
            refine hK15 _ ?_
            clear hK15 K15
            try simp only [thenA, inBlockA, noGotoA, ite_true, ite_false, reduceIte, Nat.reduceEqDiff]
            refine hK14 _ ?_
            refine AT_region_q fun K16 hK16 => ?_
            simp [row_map, encK, alk_refl, ha, hb, hb25]
            repeat (refine ⟨by first | omega | assumption | exact Rows_map _ _ encK_cells _ | exact ⟨rows_takeK _ _, by omega⟩ | exact ⟨rows_takeK _ _, by simp; omega⟩ | (simp at *; omega), ?_⟩)
            refine hK16 _ ?_
            clear hK16 K16
            try simp only [thenA, inBlockA, noGotoA, ite_true, ite_false, reduceIte, Nat.reduceEqDiff]
            refine hK11 _ (by first | rfl | simp) (a.length - (k+1)) (by omega) ?_
            refine ⟨k+1, by omega, by omega, ?_⟩
            rw [take_encK k a hb25]
            first | rfl | simp
          ·
            try simp [row_map, encK, alk_refl, ha, hb] at hb25
            refine AT_exit ?_
            try simp only [thenA, inBlockA, noGotoA, ite_true, ite_false, reduceIte, Nat.reduceEqDiff]
            refine hK9 _ ?_
            refine AT_seq_region fun K17 hK17 => ?_
            simp [row_map, encK, alk_refl, ha, hb, hb25]
            repeat (refine ⟨by first | omega | assumption | exact Rows_map _ _ encK_cells _ | exact ⟨rows_takeK _ _, by omega⟩ | exact ⟨rows_takeK _ _, by simp; omega⟩ | (simp at *; omega), ?_⟩)
            refine hK17 _ ?_
            clear hK17 K17
            refine AT_seq_k fun K18 hK18 => ?_
            refine AT_seq_region fun K19 hK19 => ?_
            simp [row_map, encK, alk_refl, ha, hb, hb25]
            repeat (refine ⟨by first | omega | assumption | exact Rows_map _ _ encK_cells _ | exact ⟨rows_takeK _ _, by omega⟩ | exact ⟨rows_takeK _ _, by simp; omega⟩ | (simp at *; omega), ?_⟩)
            refine hK19 _ ?_
            clear hK19 K19
            refine AT_block ?_
            refine AT_loop_q [0,1,5,7,8] [] (fun j s => ∃ k, k ≤ b.length ∧ j = b.length - k ∧ s = { n := 60, tm := [(0, .v (.slice (a.map encK)) none), (1, .v (.slice (b.map encK)) none), (5, .v (.slice (a.map encK)) (some (5, 43))), (7, .v (.slice ((b.take k).map encK)) (some (7, 43))), (8, .v (.int .i64 k) none)], bx := [], tb := [], sh := [], hint := [(5, 43), (7, 43)] }) (b.length) (by first | rfl | simp) ?_ ?_
            ·
              exact ⟨0, by simp [take_all_encK2 hb25]⟩
            ·
              rintro j s ⟨k, hk, rfl, rfl⟩ K20 hK20
              refine AT_seq_k fun K21 hK21 => ?_
              refine AT_seq_region fun K22 hK22 => ?_
              simp [row_map, encK, alk_refl, ha, hb, hb25]
              repeat (refine ⟨by first | omega | assumption | exact Rows_map _ _ encK_cells _ | exact ⟨rows_takeK _ _, by omega⟩ | exact ⟨rows_takeK _ _, by simp; omega⟩ | (simp at *; omega), ?_⟩)
              refine hK22 _ ?_
              clear hK22 K22
              refine AT_cond (g := none) rfl (fun hb38 => ?_) (fun hb38 => ?_)
              ·
                try simp [row_map, encK, alk_refl, ha, hb, hb25] at hb38
                refine AT_skip ?_
                try simp only [thenA, inBlockA, noGotoA, ite_true, ite_false, reduceIte, Nat.reduceEqDiff]
                refine hK21 _ ?_
                refine AT_seq_k fun K23 hK23 => ?_
                refine AT_block ?_
                refine AT_region_q fun K24 hK24 => ?_
                simp [row_map, encK, alk_refl, ha, hb, hb25, hb38]
                repeat (refine ⟨by first | omega | assumption | exact Rows_map _ _ encK_cells _ | exact ⟨rows_takeK _ _, by omega⟩ | exact ⟨rows_takeK _ _, by simp; omega⟩ | (simp at *; omega), ?_⟩)
                refine hK24 _ ?_
                clear hK24 K24
                try simp only [thenA, inBlockA, noGotoA, ite_true, ite_false, reduceIte, Nat.reduceEqDiff]
                refine hK23 _ ?_
                refine AT_region_q fun K25 hK25 => ?_
                simp [row_map, encK, alk_refl, ha, hb, hb25, hb38]
                repeat (refine ⟨by first | omega | assumption | exact Rows_map _ _ encK_cells _ | exact ⟨rows_takeK _ _, by omega⟩ | exact ⟨rows_takeK _ _, by simp; omega⟩ | (simp at *; omega), ?_⟩)
                refine hK25 _ ?_
                clear hK25 K25
                try simp only [thenA, inBlockA, noGotoA, ite_true, ite_false, reduceIte, Nat.reduceEqDiff]
                refine hK20 _ (by first | rfl | simp) (b.length - (k+1)) (by omega) ?_
                refine ⟨k+1, by omega, by omega, ?_⟩
                rw [take_encK k b hb38]
                first | rfl | simp
              ·
                try simp [row_map, encK, alk_refl, ha, hb, hb25] at hb38
                refine AT_exit ?_
                try simp only [thenA, inBlockA, noGotoA, ite_true, ite_false, reduceIte, Nat.reduceEqDiff]
                refine hK18 _ ?_
                refine AT_seq_region fun K26 hK26 => ?_
                try rw [take_all_encK2 hb38]
                simp [row_map, encK, alk_refl, ha, hb, hb25, hb38]
                repeat (refine ⟨by first | omega | assumption | exact Rows_map _ _ encK_cells _ | exact ⟨rows_takeK _ _, by omega⟩ | exact ⟨rows_takeK _ _, by simp; omega⟩ | (simp at *; omega), ?_⟩)
                try (
                  refine RVn_call (c_lex_Same g rnd a b (by omega)) ?_
                  simp [row_map, encK, alk_refl, ha, hb, hb25, hb38]
                  repeat (refine ⟨by first | omega | assumption | exact Rows_map _ _ encK_cells _ | exact ⟨rows_takeK _ _, by omega⟩ | exact ⟨rows_takeK _ _, by simp; omega⟩ | (simp at *; omega), ?_⟩))
                try (
                  refine RVn_call (c_ref03x_Alike g rnd a b (by omega)) ?_
                  simp [row_map, encK, alk_refl, ha, hb, hb25, hb38]
                  repeat (refine ⟨by first | omega | assumption | exact Rows_map _ _ encK_cells _ | exact ⟨rows_takeK _ _, by omega⟩ | exact ⟨rows_takeK _ _, by simp; omega⟩ | (simp at *; omega), ?_⟩))
                try (
                  refine RVn_call (c_lex_Same g rnd a a (by omega)) ?_
                  simp [row_map, encK, alk_refl, ha, hb, hb25, hb38]
                  repeat (refine ⟨by first | omega | assumption | exact Rows_map _ _ encK_cells _ | exact ⟨rows_takeK _ _, by omega⟩ | exact ⟨rows_takeK _ _, by simp; omega⟩ | (simp at *; omega), ?_⟩))
                refine hK26 _ ?_
                clear hK26 K26
                refine AT_ret ?_
                simp [row_map, encK, alk_refl, Tryd.f6]

theorem c_law03x_LexComments (s c : Str) (hty : g 0 = some errTy) : Valid Tryd.prog (G0 g rnd) 7 [.str s, .str c] (.bool true) := by
  obtain ⟨x, hxx⟩ : ∃ x, x = lexR (lexT s) := ⟨_, rfl⟩
  obtain ⟨l0, n0, hl0⟩ : ∃ l0 n0, lexR (lexT s) = .agg [.slice l0, .int .i64 n0] := by rcases hx : lexT s with ⟨_ | l, n⟩ <;> exact ⟨_, _, rfl⟩
  refine valid_of [(6, 5)] Tryd.func7 rfl (by kernel_rfl) ?_
  refine AT_seq_region fun K1 hK1 => ?_
  simp [hl0, Tryd.f7]
  repeat (refine ⟨by first | omega | assumption | exact Rows_map _ _ encB_cells _ | exact ⟨Rows_map _ _ encB_cells _, by omega⟩ | exact ⟨Rows_map _ _ encB_cells _, by simp; omega⟩ | (simp at *; omega), ?_⟩)
  refine hK1 _ ?_
  clear hK1 K1
  refine AT_seq_k fun K2 hK2 => ?_
  by_cases hbig : (1000 : Int) < s.length
  ·
    refine AT_seq_region fun K3 hK3 => ?_
    simp [hl0, hbig]
    repeat (refine ⟨by first | omega | assumption | exact Rows_map _ _ encB_cells _ | exact ⟨Rows_map _ _ encB_cells _, by omega⟩ | exact ⟨Rows_map _ _ encB_cells _, by simp; omega⟩ | (simp at *; omega), ?_⟩)
    refine RVn_call (c_law03x_awake g rnd hty) ?_
    simp [hl0, hbig]
    repeat (refine ⟨by first | omega | assumption | exact Rows_map _ _ encB_cells _ | exact ⟨Rows_map _ _ encB_cells _, by omega⟩ | exact ⟨Rows_map _ _ encB_cells _, by simp; omega⟩ | (simp at *; omega), ?_⟩)
    refine hK3 _ ?_
    clear hK3 K3
    refine AT_cond (b := true) (g := none) (by simp [hbig]) (fun hb => ?_) (fun hb => ?_)
    ·
      clear hb
      refine AT_seq_region fun K4 hK4 => ?_
      simp [hl0, hbig]
      repeat (refine ⟨by first | omega | assumption | exact Rows_map _ _ encB_cells _ | exact ⟨Rows_map _ _ encB_cells _, by omega⟩ | exact ⟨Rows_map _ _ encB_cells _, by simp; omega⟩ | (simp at *; omega), ?_⟩)
      refine RVn_call (c_law03x_awake g rnd hty) ?_
      simp [hl0, hbig]
      repeat (refine ⟨by first | omega | assumption | exact Rows_map _ _ encB_cells _ | exact ⟨Rows_map _ _ encB_cells _, by omega⟩ | exact ⟨Rows_map _ _ encB_cells _, by simp; omega⟩ | (simp at *; omega), ?_⟩)
      refine hK4 _ ?_
      clear hK4 K4
      refine AT_ret ?_
      simp [hl0, Tryd.f7]
    ·
      cases hb
  ·
    by_cases hbc : (1000 : Int) < c.length
    ·
      refine AT_seq_region fun K5 hK5 => ?_
      simp [hl0, hbig, hbc]
      repeat (refine ⟨by first | omega | assumption | exact Rows_map _ _ encB_cells _ | exact ⟨Rows_map _ _ encB_cells _, by omega⟩ | exact ⟨Rows_map _ _ encB_cells _, by simp; omega⟩ | (simp at *; omega), ?_⟩)
      refine RVn_call (c_law03x_awake g rnd hty) ?_
      simp [hl0, hbig, hbc]
      repeat (refine ⟨by first | omega | assumption | exact Rows_map _ _ encB_cells _ | exact ⟨Rows_map _ _ encB_cells _, by omega⟩ | exact ⟨Rows_map _ _ encB_cells _, by simp; omega⟩ | (simp at *; omega), ?_⟩)
      refine hK5 _ ?_
      clear hK5 K5
      refine AT_cond (b := true) (g := none) (by simp [hbig, hbc]) (fun hb => ?_) (fun hb => ?_)
      ·
        clear hb
        refine AT_seq_region fun K6 hK6 => ?_
        simp [hl0, hbig, hbc]
        repeat (refine ⟨by first | omega | assumption | exact Rows_map _ _ encB_cells _ | exact ⟨Rows_map _ _ encB_cells _, by omega⟩ | exact ⟨Rows_map _ _ encB_cells _, by simp; omega⟩ | (simp at *; omega), ?_⟩)
        refine RVn_call (c_law03x_awake g rnd hty) ?_
        simp [hl0, hbig, hbc]
        repeat (refine ⟨by first | omega | assumption | exact Rows_map _ _ encB_cells _ | exact ⟨Rows_map _ _ encB_cells _, by omega⟩ | exact ⟨Rows_map _ _ encB_cells _, by simp; omega⟩ | (simp at *; omega), ?_⟩)
        refine hK6 _ ?_
        clear hK6 K6
        refine AT_ret ?_
        simp [hl0, Tryd.f7]
      ·
        cases hb
    ·
      refine AT_seq_region fun K7 hK7 => ?_
      simp [hl0, hbig, hbc]
      repeat (refine ⟨by first | omega | assumption | exact Rows_map _ _ encB_cells _ | exact ⟨Rows_map _ _ encB_cells _, by omega⟩ | exact ⟨Rows_map _ _ encB_cells _, by simp; omega⟩ | (simp at *; omega), ?_⟩)
      refine RVn_call (c_law03x_awake g rnd hty) ?_
      simp [hl0, hbig, hbc]
      repeat (refine ⟨by first | omega | assumption | exact Rows_map _ _ encB_cells _ | exact ⟨Rows_map _ _ encB_cells _, by omega⟩ | exact ⟨Rows_map _ _ encB_cells _, by simp; omega⟩ | (simp at *; omega), ?_⟩)
      refine hK7 _ ?_
      clear hK7 K7
      refine AT_cond (b := false) (g := none) (by simp [hbig, hbc]) (fun hb => ?_) (fun hb => ?_)
      ·
        cases hb
      ·
        clear hb
        refine AT_skip ?_
        try simp only [thenA, inBlockA, noGotoA, ite_true, ite_false, reduceIte, Nat.reduceEqDiff]
        refine hK2 _ ?_
        refine AT_seq_region fun K8 hK8 => ?_
        simp [hl0, hbig, hbc]
        repeat (refine ⟨by first | omega | assumption | exact Rows_map _ _ encB_cells _ | exact ⟨Rows_map _ _ encB_cells _, by omega⟩ | exact ⟨Rows_map _ _ encB_cells _, by simp; omega⟩ | (simp at *; omega), ?_⟩)
        refine RVn_call (c_ref03x_Tokens g rnd s (by omega)) ?_
        simp [hl0, hbig, hbc]
        repeat (refine ⟨by first | omega | assumption | exact Rows_map _ _ encB_cells _ | exact ⟨Rows_map _ _ encB_cells _, by omega⟩ | exact ⟨Rows_map _ _ encB_cells _, by simp; omega⟩ | (simp at *; omega), ?_⟩)
        refine hK8 _ ?_
        clear hK8 K8
        refine AT_seq_region fun K9 hK9 => ?_
        simp [hl0, hbig, hbc]
        repeat (refine ⟨by first | omega | assumption | exact Rows_map _ _ encB_cells _ | exact ⟨Rows_map _ _ encB_cells _, by omega⟩ | exact ⟨Rows_map _ _ encB_cells _, by simp; omega⟩ | (simp at *; omega), ?_⟩)
        refine hK9 _ ?_
        clear hK9 K9
        refine AT_seq_k fun K10 hK10 => ?_
        refine AT_seq_region fun K11 hK11 => ?_
        simp [hl0, hbig, hbc]
        repeat (refine ⟨by first | omega | assumption | exact Rows_map _ _ encB_cells _ | exact ⟨Rows_map _ _ encB_cells _, by omega⟩ | exact ⟨Rows_map _ _ encB_cells _, by simp; omega⟩ | (simp at *; omega), ?_⟩)
        refine hK11 _ ?_
        clear hK11 K11
        refine AT_block ?_
        refine AT_loop_q [0,1,5,6,7] [5] (fun j s1 => ∃ k, k ≤ c.length ∧ j = c.length - k ∧ s1 = { n := 63, tm := [(0, .v (.str s) none), (1, .v (.str c) none), (5, .lp 5 0), (6, .v (.slice ((noNl (c.take k)).map encB)) (some (6, 5))), (7, .v (.int .i64 k) none)], bx := [(5, [.slice l0, .int .i64 n0])], tb := [], sh := [], hint := [(6, 5)] }) (c.length) (by first | rfl | simp) ?_ ?_
        ·
          exact ⟨0, by simp [noNl]⟩
        ·
          rintro j s1 ⟨k, hk, rfl, rfl⟩ K12 hK12
          refine AT_seq_k fun K13 hK13 => ?_
          refine AT_seq_region fun K14 hK14 => ?_
          simp [hl0, hbig, hbc]
          repeat (refine ⟨by first | omega | assumption | exact Rows_map _ _ encB_cells _ | exact ⟨Rows_map _ _ encB_cells _, by omega⟩ | exact ⟨Rows_map _ _ encB_cells _, by simp; omega⟩ | (simp at *; omega), ?_⟩)
          refine hK14 _ ?_
          clear hK14 K14
          refine AT_cond (g := none) rfl (fun hb28 => ?_) (fun hb28 => ?_)
          ·
            try simp [hl0, hbig, hbc] at hb28
            refine AT_skip ?_
            try simp only [thenA, inBlockA, noGotoA, ite_true, ite_false, reduceIte, Nat.reduceEqDiff]
            refine hK13 _ ?_
            refine AT_seq_k fun K15 hK15 => ?_
            refine AT_block ?_
            by_cases h10 : ((c[k].toNat : Nat) : Int) = 10
            ·
              have h10b : c[k] = 10 := UInt8.toNat_inj.1 (Int.ofNat.inj h10)
              refine AT_seq_region fun K16 hK16 => ?_
              simp [hl0, hbig, hbc, hb28, h10]
              repeat (refine ⟨by first | omega | assumption | exact Rows_map _ _ encB_cells _ | exact ⟨Rows_map _ _ encB_cells _, by omega⟩ | exact ⟨Rows_map _ _ encB_cells _, by simp; omega⟩ | (simp at *; omega), ?_⟩)
              refine hK16 _ ?_
              clear hK16 K16
              refine AT_cond (b := false) (g := none) (by simp [hbig, hbc, hb28, h10]) (fun hb => ?_) (fun hb => ?_)
              ·
                cases hb
              ·
                clear hb
                refine AT_skip ?_
                try simp only [thenA, inBlockA, noGotoA, ite_true, ite_false, reduceIte, Nat.reduceEqDiff]
                refine hK15 _ ?_
                refine AT_region_q fun K17 hK17 => ?_
                simp [hl0, hbig, hbc, hb28, h10]
                repeat (refine ⟨by first | omega | assumption | exact Rows_map _ _ encB_cells _ | exact ⟨Rows_map _ _ encB_cells _, by omega⟩ | exact ⟨Rows_map _ _ encB_cells _, by simp; omega⟩ | (simp at *; omega), ?_⟩)
                refine hK17 _ ?_
                clear hK17 K17
                try simp only [thenA, inBlockA, noGotoA, ite_true, ite_false, reduceIte, Nat.reduceEqDiff]
                refine hK12 _ (by first | rfl | simp) (c.length - (k+1)) (by omega) ?_
                have hj := noNl_take hb28
                first
                | (rw [if_pos h10b, List.append_nil] at hj
                   exact ⟨k+1, by omega, by omega, by rw [hj]; simp⟩)
                | (rw [if_neg h10b] at hj
                   exact ⟨k+1, by omega, by omega, by rw [hj]; simp [encB]⟩)
            ·
              have h10b : ¬ c[k] = 10 := fun he => h10 (by rw [he]; rfl)
              refine AT_seq_region fun K18 hK18 => ?_
              simp [hl0, hbig, hbc, hb28, h10]
              repeat (refine ⟨by first | omega | assumption | exact Rows_map _ _ encB_cells _ | exact ⟨Rows_map _ _ encB_cells _, by omega⟩ | exact ⟨Rows_map _ _ encB_cells _, by simp; omega⟩ | (simp at *; omega), ?_⟩)
              refine hK18 _ ?_
              clear hK18 K18
              refine AT_cond (b := true) (g := none) (by simp [hbig, hbc, hb28, h10]) (fun hb => ?_) (fun hb => ?_)
              ·
                clear hb
                refine AT_region_q fun K19 hK19 => ?_
                have hnl := noNl_le (c.take k)
                rw [List.length_take] at hnl
                simp [hl0, hbig, hbc, hb28, h10]
                repeat (refine ⟨by first | omega | assumption | exact Rows_map _ _ encB_cells _ | exact ⟨Rows_map _ _ encB_cells _, by omega⟩ | exact ⟨Rows_map _ _ encB_cells _, by simp; omega⟩ | (simp at *; omega), ?_⟩)
                refine hK19 _ ?_
                clear hK19 K19
                try simp only [thenA, inBlockA, noGotoA, ite_true, ite_false, reduceIte, Nat.reduceEqDiff]
                refine hK15 _ ?_
                refine AT_region_q fun K20 hK20 => ?_
                simp [hl0, hbig, hbc, hb28, h10]
                repeat (refine ⟨by first | omega | assumption | exact Rows_map _ _ encB_cells _ | exact ⟨Rows_map _ _ encB_cells _, by omega⟩ | exact ⟨Rows_map _ _ encB_cells _, by simp; omega⟩ | (simp at *; omega), ?_⟩)
                refine hK20 _ ?_
                clear hK20 K20
                try simp only [thenA, inBlockA, noGotoA, ite_true, ite_false, reduceIte, Nat.reduceEqDiff]
                refine hK12 _ (by first | rfl | simp) (c.length - (k+1)) (by omega) ?_
                have hj := noNl_take hb28
                first
                | (rw [if_pos h10b, List.append_nil] at hj
                   exact ⟨k+1, by omega, by omega, by rw [hj]; simp⟩)
                | (rw [if_neg h10b] at hj
                   exact ⟨k+1, by omega, by omega, by rw [hj]; simp [encB]⟩)
              ·
                cases hb
          ·
            try simp [hl0, hbig, hbc] at hb28
            refine AT_exit ?_
            try simp only [thenA, inBlockA, noGotoA, ite_true, ite_false, reduceIte, Nat.reduceEqDiff]
            refine hK10 _ ?_
            refine AT_seq_k fun K21 hK21 => ?_
            have hca : c.take k = c := List.take_of_length_le hb28
            have hcl := noNl_le c
            rcases hx : lexT s with ⟨_ | l, n⟩
            ·
              have hl1 := hl0
              rw [hx] at hl1
              have hn0 : n0 = (n : Int) := by simp only [lexR, AV.agg.injEq, List.cons.injEq, AV.int.injEq] at hl1; exact hl1.2.1.2.symm
              subst hn0
              refine AT_seq_region fun K22 hK22 => ?_
              simp [hl0, hbig, hbc, hb28, hca]
              repeat (refine ⟨by first | omega | assumption | exact Rows_map _ _ encB_cells _ | exact ⟨Rows_map _ _ encB_cells _, by omega⟩ | exact ⟨Rows_map _ _ encB_cells _, by simp; omega⟩ | (simp at *; omega), ?_⟩)
              refine hK22 _ ?_
              clear hK22 K22
              refine AT_cond (b := true) (g := none) (by simp [hbig, hbc, hb28, hca]) (fun hb => ?_) (fun hb => ?_)
              ·
                clear hb
                refine AT_seq_region fun K23 hK23 => ?_
                simp [hl0, hbig, hbc, hb28, hca]
                repeat (refine ⟨by first | omega | assumption | exact Rows_map _ _ encB_cells _ | exact ⟨Rows_map _ _ encB_cells _, by omega⟩ | exact ⟨Rows_map _ _ encB_cells _, by simp; omega⟩ | (simp at *; omega), ?_⟩)
                refine hK23 _ ?_
                clear hK23 K23
                refine AT_ret ?_
                simp [hl0, Tryd.f7]
              ·
                cases hb
            ·
              have hl1 := hl0
              rw [hx] at hl1
              have hn0 : n0 = -1 := by simp only [lexR, AV.agg.injEq, List.cons.injEq, AV.int.injEq] at hl1; exact hl1.2.1.2.symm
              have hl2 : l0 = l.map encK := by simp only [lexR, AV.agg.injEq, List.cons.injEq, AV.slice.injEq] at hl1; exact hl1.1.symm
              subst hn0
              subst hl2
              obtain ⟨m, q, hm1, hm2, hm3, hm4⟩ := commentT (c := noNl c) (by omega) (by omega) (noNl_not c) hx
              refine AT_seq_region fun K24 hK24 => ?_
              simp [hl0, hbig, hbc, hb28, hca, hm2, rowNums_encB, ofNum_encB, ofNum_encB2, lexV]
              repeat (refine ⟨by first | omega | assumption | exact Rows_map _ _ encB_cells _ | exact ⟨Rows_map _ _ encB_cells _, by omega⟩ | exact ⟨Rows_map _ _ encB_cells _, by simp; omega⟩ | (simp at *; omega), ?_⟩)
              refine hK24 _ ?_
              clear hK24 K24
              refine AT_cond (b := false) (g := none) (by simp [hbig, hbc, hb28, hca, hm2, rowNums_encB, ofNum_encB, ofNum_encB2, lexV]) (fun hb => ?_) (fun hb => ?_)
              ·
                cases hb
              ·
                clear hb
                refine AT_skip ?_
                try simp only [thenA, inBlockA, noGotoA, ite_true, ite_false, reduceIte, Nat.reduceEqDiff]
                refine hK21 _ ?_
                refine AT_seq_region fun K25 hK25 => ?_
                simp [hl0, hbig, hbc, hb28, hca, hm2, rowNums_encB, ofNum_encB, ofNum_encB2, lexV]
                repeat (refine ⟨by first | omega | assumption | exact Rows_map _ _ encB_cells _ | exact ⟨Rows_map _ _ encB_cells _, by omega⟩ | exact ⟨Rows_map _ _ encB_cells _, by simp; omega⟩ | (simp at *; omega), ?_⟩)
                refine RVn_call (tok1 g rnd hm1 (by simp; omega)) ?_
                simp [hl0, hbig, hbc, hb28, hca, hm2, rowNums_encB, ofNum_encB, ofNum_encB2, lexV]
                repeat (refine ⟨by first | omega | assumption | exact Rows_map _ _ encB_cells _ | exact ⟨Rows_map _ _ encB_cells _, by omega⟩ | exact ⟨Rows_map _ _ encB_cells _, by simp; omega⟩ | (simp at *; omega), ?_⟩)
                refine hK25 _ ?_
                clear hK25 K25
                refine AT_seq_draw Pt.mixed (by kernel_rfl) fun K26 hK26 => ?_
                simp [hl0, hbig, hbc, hb28, hca, hm2, rowNums_encB, ofNum_encB, ofNum_encB2, lexV]
                repeat (refine ⟨by first | omega | assumption | exact Rows_map _ _ encB_cells _ | exact ⟨Rows_map _ _ encB_cells _, by omega⟩ | exact ⟨Rows_map _ _ encB_cells _, by simp; omega⟩ | (simp at *; omega), ?_⟩)
                refine RVdn_call (c_law03x_plain g rnd m (by omega)) ?_
                simp [hl0, hbig, hbc, hb28, hca, hm2, rowNums_encB, ofNum_encB, ofNum_encB2, lexV]
                repeat (refine ⟨by first | omega | assumption | exact Rows_map _ _ encB_cells _ | exact ⟨Rows_map _ _ encB_cells _, by omega⟩ | exact ⟨Rows_map _ _ encB_cells _, by simp; omega⟩ | (simp at *; omega), ?_⟩)
                refine RVdn_call (c_ref03x_Alike g rnd m l (by omega)) ?_
                simp [hl0, hbig, hbc, hb28, hca, hm2, rowNums_encB, ofNum_encB, ofNum_encB2, lexV]
                repeat (refine ⟨by first | omega | assumption | exact Rows_map _ _ encB_cells _ | exact ⟨Rows_map _ _ encB_cells _, by omega⟩ | exact ⟨Rows_map _ _ encB_cells _, by simp; omega⟩ | (simp at *; omega), ?_⟩)
                refine hK26 _ ?_
                clear hK26 K26
                refine AT_ret ?_
                simp [hl0, Tryd.f7]

end Go.Proofs.YtoehgdamenpclaaDoor

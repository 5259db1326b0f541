import Derived.Test.YtjkabaejabibnaaDoorPt
import Derived.Test.YtjkabaejabibnaaDoorPvLc
import Derived.Test.YtjkabaejabibnaaDoorPvY
import Derived.Test.YtjkabaejabibnaaDoorXTyH
import Derived.Test.YtjkabaejabibnaaDoorXExD
import Derived.Test.YtjkabaejabibnaaDoorXExC
import Derived.Test.YtjkabaejabibnaaDoorXExA
import Derived.Test.YtjkabaejabibnaaDoorXExB
import Derived.Test.YtjkabaejabibnaaDoorXExF
import Derived.Test.YtjkabaejabibnaaDoorPvMd
section
/- Contracts: what every law of this package asks first. -/
set_option linter.all false
set_option maxHeartbeats 1000000
set_option maxRecDepth 10000
namespace Go.Proofs.YtjkabaejabibnaaDoor
open Go Go.Pv
variable (g : Nat → Option (List AV)) (rnd : Bool)

def awX : Exp := .mk 1 [120] ty0 [] [] 0
def awF : Exp := .mk 1 [102] ty0 [] [] 0
def awV : Exp := .mk 3 [] (.mk [84] [] 0) [] [] 0
def awC : Exp := .mk 2 [77, 97, 112] ty0 [.mk [98] [] 0] [awX, awF] 0
def awE : Exp := .mk 2 [77, 97, 112] ty0 [.mk [73, 110, 116] [] 0] [awX, awF] 0
def awR : Exp := .mk 2 [77, 97, 112] ty0 [.mk [98] [] 0] [awX, awV] 0
theorem c_law05x_awake (hres : g 0 = some reservedA) : Valid Tryd.prog (G0 g false) 8 [] (.bool true) := by

  refine valid_of [] Tryd.func8 rfl (by kernel_rfl) ?_
  refine AT_seq_region fun K1 hK1 => ?_
  simp [Tryd.f8]
  repeat (refine ⟨by first | omega | (simp at *; omega), ?_⟩)
  refine hK1 _ ?_
  clear hK1 K1
  refine AT_seq_region fun K2 hK2 => ?_
  simp
  repeat (refine ⟨by first | omega | (simp at *; omega), ?_⟩)
  refine hK2 _ ?_
  clear hK2 K2
  refine AT_seq_region fun K3 hK3 => ?_
  simp
  repeat (refine ⟨by first | omega | (simp at *; omega), ?_⟩)
  refine hK3 _ ?_
  clear hK3 K3
  refine AT_seq_region fun K4 hK4 => ?_
  simp
  repeat (refine ⟨by first | omega | (simp at *; omega), ?_⟩)
  refine hK4 _ ?_
  clear hK4 K4
  refine AT_seq_region fun K5 hK5 => ?_
  simp
  repeat (refine ⟨by first | omega | (simp at *; omega), ?_⟩)
  refine hK5 _ ?_
  clear hK5 K5
  refine AT_seq_region fun K6 hK6 => ?_
  simp
  repeat (refine ⟨by first | omega | (simp at *; omega), ?_⟩)
  refine RVn_call ((by have h := c_expr_Subst g false [[98]] [.mk [73, 110, 116] [] 0] (by decide) (by decide) (by decide) awC (by decide); exact h : Valid Tryd.prog (G0 g false) 22 [.agg [.int .i64 2, .str [77, 97, 112], .str [], .slice [], .int .i64 0, .slice [[.str [98], .slice [], .int .i64 0]], .slice [[.int .i64 1, .str [120], .str [], .slice [], .int .i64 0, .slice [], .slice [], .int .i64 0], [.int .i64 1, .str [102], .str [], .slice [], .int .i64 0, .slice [], .slice [], .int .i64 0]], .int .i64 0], .slice [[.str [98]]], .slice [[.str [73, 110, 116], .slice [], .int .i64 0]]] (.agg [.int .i64 2, .str [77, 97, 112], .str [], .slice [], .int .i64 0, .slice [[.str [73, 110, 116], .slice [], .int .i64 0]], .slice [[.int .i64 1, .str [120], .str [], .slice [], .int .i64 0, .slice [], .slice [], .int .i64 0], [.int .i64 1, .str [102], .str [], .slice [], .int .i64 0, .slice [], .slice [], .int .i64 0]], .int .i64 0]))) ?_
  simp
  repeat (refine ⟨by first | omega | (simp at *; omega), ?_⟩)
  refine hK6 _ ?_
  clear hK6 K6
  refine AT_seq_region fun K7 hK7 => ?_
  simp
  repeat (refine ⟨by first | omega | (simp at *; omega), ?_⟩)
  refine RVn_call ((by have h := c_expr_Text g false awC (by decide) (by decide); exact h : Valid Tryd.prog (G0 g false) 14 [.agg [.int .i64 2, .str [77, 97, 112], .str [], .slice [], .int .i64 0, .slice [[.str [98], .slice [], .int .i64 0]], .slice [[.int .i64 1, .str [120], .str [], .slice [], .int .i64 0, .slice [], .slice [], .int .i64 0], [.int .i64 1, .str [102], .str [], .slice [], .int .i64 0, .slice [], .slice [], .int .i64 0]], .int .i64 0]] (.str [120, 46, 77, 97, 112, 91, 98, 93, 40, 102, 41]))) ?_
  simp
  repeat (refine ⟨by first | omega | (simp at *; omega), ?_⟩)
  refine RVn_call ((by have h := c_expr_Right g false awC (by decide) hres; exact h : Valid Tryd.prog (G0 g false) 10 [.agg [.int .i64 2, .str [77, 97, 112], .str [], .slice [], .int .i64 0, .slice [[.str [98], .slice [], .int .i64 0]], .slice [[.int .i64 1, .str [120], .str [], .slice [], .int .i64 0, .slice [], .slice [], .int .i64 0], [.int .i64 1, .str [102], .str [], .slice [], .int .i64 0, .slice [], .slice [], .int .i64 0]], .int .i64 0]] (.bool true))) ?_
  simp
  repeat (refine ⟨by first | omega | (simp at *; omega), ?_⟩)
  refine RVn_call ((by have h := c_expr_Right g false ex0 (by decide) hres; exact h : Valid Tryd.prog (G0 g false) 10 [.agg [.int .i64 0, .str [], .str [], .slice [], .int .i64 0, .slice [], .slice [], .int .i64 0]] (.bool false))) ?_
  simp
  repeat (refine ⟨by first | omega | (simp at *; omega), ?_⟩)
  refine RVn_call ((by have h := c_expr_Depth g false awC (by decide); exact h : Valid Tryd.prog (G0 g false) 16 [.agg [.int .i64 2, .str [77, 97, 112], .str [], .slice [], .int .i64 0, .slice [[.str [98], .slice [], .int .i64 0]], .slice [[.int .i64 1, .str [120], .str [], .slice [], .int .i64 0, .slice [], .slice [], .int .i64 0], [.int .i64 1, .str [102], .str [], .slice [], .int .i64 0, .slice [], .slice [], .int .i64 0]], .int .i64 0]] (.int .i64 2))) ?_
  simp
  repeat (refine ⟨by first | omega | (simp at *; omega), ?_⟩)
  refine RVn_call ((by have h := c_expr_Value g false awC (by decide); exact h : Valid Tryd.prog (G0 g false) 18 [.agg [.int .i64 2, .str [77, 97, 112], .str [], .slice [], .int .i64 0, .slice [[.str [98], .slice [], .int .i64 0]], .slice [[.int .i64 1, .str [120], .str [], .slice [], .int .i64 0, .slice [], .slice [], .int .i64 0], [.int .i64 1, .str [102], .str [], .slice [], .int .i64 0, .slice [], .slice [], .int .i64 0]], .int .i64 0]] (.bool false))) ?_
  simp
  repeat (refine ⟨by first | omega | (simp at *; omega), ?_⟩)
  refine RVn_call ((by have h := c_expr_Value g false awV (by decide); exact h : Valid Tryd.prog (G0 g false) 18 [.agg [.int .i64 3, .str [], .str [84], .slice [], .int .i64 0, .slice [], .slice [], .int .i64 0]] (.bool true))) ?_
  simp
  repeat (refine ⟨by first | omega | (simp at *; omega), ?_⟩)
  refine RVn_call ((by have h := c_expr_Text g false awE (by decide) (by decide); exact h : Valid Tryd.prog (G0 g false) 14 [.agg [.int .i64 2, .str [77, 97, 112], .str [], .slice [], .int .i64 0, .slice [[.str [73, 110, 116], .slice [], .int .i64 0]], .slice [[.int .i64 1, .str [120], .str [], .slice [], .int .i64 0, .slice [], .slice [], .int .i64 0], [.int .i64 1, .str [102], .str [], .slice [], .int .i64 0, .slice [], .slice [], .int .i64 0]], .int .i64 0]] (.str [120, 46, 77, 97, 112, 91, 73, 110, 116, 93, 40, 102, 41]))) ?_
  simp
  repeat (refine ⟨by first | omega | (simp at *; omega), ?_⟩)
  refine RVn_call ((by have h := c_expr_Replace g false [[102]] [awV] (by decide) (by decide) (by decide) awC (by decide); exact h : Valid Tryd.prog (G0 g false) 25 [.agg [.int .i64 2, .str [77, 97, 112], .str [], .slice [], .int .i64 0, .slice [[.str [98], .slice [], .int .i64 0]], .slice [[.int .i64 1, .str [120], .str [], .slice [], .int .i64 0, .slice [], .slice [], .int .i64 0], [.int .i64 1, .str [102], .str [], .slice [], .int .i64 0, .slice [], .slice [], .int .i64 0]], .int .i64 0], .slice [[.str [102]]], .slice [[.int .i64 3, .str [], .str [84], .slice [], .int .i64 0, .slice [], .slice [], .int .i64 0]]] (.agg [.int .i64 2, .str [77, 97, 112], .str [], .slice [], .int .i64 0, .slice [[.str [98], .slice [], .int .i64 0]], .slice [[.int .i64 1, .str [120], .str [], .slice [], .int .i64 0, .slice [], .slice [], .int .i64 0], [.int .i64 3, .str [], .str [84], .slice [], .int .i64 0, .slice [], .slice [], .int .i64 0]], .int .i64 0]))) ?_
  simp
  repeat (refine ⟨by first | omega | (simp at *; omega), ?_⟩)
  refine RVn_call ((by have h := c_expr_Text g false awR (by decide) (by decide); exact h : Valid Tryd.prog (G0 g false) 14 [.agg [.int .i64 2, .str [77, 97, 112], .str [], .slice [], .int .i64 0, .slice [[.str [98], .slice [], .int .i64 0]], .slice [[.int .i64 1, .str [120], .str [], .slice [], .int .i64 0, .slice [], .slice [], .int .i64 0], [.int .i64 3, .str [], .str [84], .slice [], .int .i64 0, .slice [], .slice [], .int .i64 0]], .int .i64 0]] (.str [120, 46, 77, 97, 112, 91, 98, 93, 40, 84, 123, 125, 41]))) ?_
  simp
  repeat (refine ⟨by first | omega | (simp at *; omega), ?_⟩)
  refine RVn_call ((by have h := c_expr_Same g false awC awC (by decide); exact h : Valid Tryd.prog (G0 g false) 12 [.agg [.int .i64 2, .str [77, 97, 112], .str [], .slice [], .int .i64 0, .slice [[.str [98], .slice [], .int .i64 0]], .slice [[.int .i64 1, .str [120], .str [], .slice [], .int .i64 0, .slice [], .slice [], .int .i64 0], [.int .i64 1, .str [102], .str [], .slice [], .int .i64 0, .slice [], .slice [], .int .i64 0]], .int .i64 0], .agg [.int .i64 2, .str [77, 97, 112], .str [], .slice [], .int .i64 0, .slice [[.str [98], .slice [], .int .i64 0]], .slice [[.int .i64 1, .str [120], .str [], .slice [], .int .i64 0, .slice [], .slice [], .int .i64 0], [.int .i64 1, .str [102], .str [], .slice [], .int .i64 0, .slice [], .slice [], .int .i64 0]], .int .i64 0]] (.bool true))) ?_
  simp
  repeat (refine ⟨by first | omega | (simp at *; omega), ?_⟩)
  refine RVn_call ((by have h := c_expr_Same g false awC awE (by decide); exact h : Valid Tryd.prog (G0 g false) 12 [.agg [.int .i64 2, .str [77, 97, 112], .str [], .slice [], .int .i64 0, .slice [[.str [98], .slice [], .int .i64 0]], .slice [[.int .i64 1, .str [120], .str [], .slice [], .int .i64 0, .slice [], .slice [], .int .i64 0], [.int .i64 1, .str [102], .str [], .slice [], .int .i64 0, .slice [], .slice [], .int .i64 0]], .int .i64 0], .agg [.int .i64 2, .str [77, 97, 112], .str [], .slice [], .int .i64 0, .slice [[.str [73, 110, 116], .slice [], .int .i64 0]], .slice [[.int .i64 1, .str [120], .str [], .slice [], .int .i64 0, .slice [], .slice [], .int .i64 0], [.int .i64 1, .str [102], .str [], .slice [], .int .i64 0, .slice [], .slice [], .int .i64 0]], .int .i64 0]] (.bool false))) ?_
  simp
  repeat (refine ⟨by first | omega | (simp at *; omega), ?_⟩)
  refine RVn_call ((by have h := c_expr_All g false awC; exact h : Valid Tryd.prog (G0 g false) 28 [.agg [.int .i64 2, .str [77, 97, 112], .str [], .slice [], .int .i64 0, .slice [[.str [98], .slice [], .int .i64 0]], .slice [[.int .i64 1, .str [120], .str [], .slice [], .int .i64 0, .slice [], .slice [], .int .i64 0], [.int .i64 1, .str [102], .str [], .slice [], .int .i64 0, .slice [], .slice [], .int .i64 0]], .int .i64 0]] (.func 56 [.ro ([.int .i64 2, .str [77, 97, 112], .str [], .slice [], .int .i64 0, .slice [[.str [98], .slice [], .int .i64 0]], .slice [[.int .i64 1, .str [120], .str [], .slice [], .int .i64 0, .slice [], .slice [], .int .i64 0], [.int .i64 1, .str [102], .str [], .slice [], .int .i64 0, .slice [], .slice [], .int .i64 0]], .int .i64 0])]))) ?_
  simp
  repeat (refine ⟨by first | omega | (simp at *; omega), ?_⟩)
  refine hK7 _ ?_
  clear hK7 K7
  refine AT_ret ?_
  simp [Tryd.f8]

end Go.Proofs.YtjkabaejabibnaaDoor
end

section
/- The law: walks over an expression. -/
set_option linter.all false
set_option maxHeartbeats 1000000
set_option maxRecDepth 10000
namespace Go.Proofs.YtjkabaejabibnaaDoor
open Go Go.Pv
variable (g : Nat → Option (List AV)) (rnd : Bool)

theorem c_law05x_ExprWalks (e : Exp) (m : Int) (hm0 : 0 ≤ m) (hm1 : m ≤ 255) (hfe : fitE e) (hres : g 0 = some reservedA) : Valid Tryd.prog (G0 g false) 6 [.agg (encE e), .int .u8 m] (.bool true) := by
  have hwr : IntKind.i64.wrap m = m := by rw [IntKind.wrap_i64]; omega
  have hll := lstE_wt e
  refine valid_of [] Tryd.func6 rfl (by kernel_rfl) ?_
  refine AT_seq_region fun K1 hK1 => ?_
  simp [row_map, hwr, AS.out, Tryd.f6]
  repeat (refine ⟨by first | omega | (simp at *; omega), ?_⟩)
  refine hK1 _ ?_
  clear hK1 K1
  refine AT_seq_k fun K2 hK2 => ?_
  by_cases hce : cntE e 0 ≤ 250
  ·
    have hwe := fewE_wt hce
    refine AT_seq_region fun K3 hK3 => ?_
    simp [row_map, hwr, AS.out, hce]
    repeat (refine ⟨by first | omega | (simp at *; omega), ?_⟩)
    try (
      refine RVn_call (c_law05x_awake g hres) ?_
      simp [row_map, hwr, AS.out, hce]
      repeat (refine ⟨by first | omega | (simp at *; omega), ?_⟩))
    try (
      refine RVn_call (c_ref05x_Few g false e hfe) ?_
      simp [row_map, hwr, AS.out, hce]
      repeat (refine ⟨by first | omega | (simp at *; omega), ?_⟩))
    refine hK3 _ ?_
    clear hK3 K3
    refine AT_cond (b := false) (g := none) (by simp [hce]) (fun hb => ?_) (fun hb => ?_)
    ·
      cases hb
    ·
      clear hb
      refine AT_skip ?_
      try simp only [thenA, inBlockA, noGotoA, ite_true, ite_false, reduceIte, Nat.reduceEqDiff]
      refine hK2 _ ?_
      refine AT_seq_region fun K4 hK4 => ?_
      simp [row_map, hwr, AS.out, hce]
      repeat (refine ⟨by first | omega | (simp at *; omega), ?_⟩)
      refine RVn_call (c_ref05x_List g false e (by omega)) ?_
      simp [row_map, hwr, AS.out, hce]
      repeat (refine ⟨by first | omega | (simp at *; omega), ?_⟩)
      refine hK4 _ ?_
      clear hK4 K4
      refine AT_seq_region fun K5 hK5 => ?_
      simp [row_map, hwr, AS.out, hce]
      repeat (refine ⟨by first | omega | (simp at *; omega), ?_⟩)
      refine RVn_call (c_expr_All g false e) ?_
      simp [row_map, hwr, AS.out, hce]
      repeat (refine ⟨by first | omega | (simp at *; omega), ?_⟩)
      refine hK5 _ ?_
      clear hK5 K5
      refine AT_seq_k fun K6 hK6 => ?_
      refine AT_seq_region fun K7 hK7 => ?_
      simp [row_map, hwr, AS.out, hce]
      repeat (refine ⟨by first | omega | (simp at *; omega), ?_⟩)
      refine hK7 _ ?_
      clear hK7 K7
      refine AT_cond (b := false) (g := none) (by simp [hce]) (fun hb => ?_) (fun hb => ?_)
      ·
        cases hb
      ·
        clear hb
        refine AT_skip ?_
        try simp only [thenA, inBlockA, noGotoA, ite_true, ite_false, reduceIte, Nat.reduceEqDiff]
        refine hK6 _ ?_
        refine AT_seq_region fun K8 hK8 => ?_
        simp [row_map, hwr, AS.out, hce]
        repeat (refine ⟨by first | omega | (simp at *; omega), ?_⟩)
        refine hK8 _ ?_
        clear hK8 K8
        refine AT_seq_k fun K9 hK9 => ?_
        refine AT_seq_region fun K10 hK10 => ?_
        simp [row_map, hwr, AS.out, hce]
        repeat (refine ⟨by first | omega | (simp at *; omega), ?_⟩)
        refine hK10 _ ?_
        clear hK10 K10
        refine AT_block ?_
        refine AT_keep [3,4,5,7,23] [3,4,5,7] (by first | rfl | simp) ?_
        refine AT_rangeFunc rfl rfl (by first | rfl | simp) (by first | decide | simp) [3,4,5,7] (by decide) (elM ((lstE e).map avE) m) (goM m) (feedG (goM m) [] ((lstE e).map avE)) (fun Y hP hgo hel => ⟨_, by have h := c_expr_All_1 g Y hP e (by omega) [] (elOk_M hel hgo _ _ (by simp) (by simpa using hm0)); rw [feed_G, hgo] at h; exact h⟩) (fun s => { n := 52, tm := [(3, .lp 3 0), (4, .lp 4 0), (5, .lp 5 0), (7, .lp 7 0), (23, .v (.func 56 [.ro (encE e)]) none)], bx := [(3, [.int .u8 m]), (4, [.bool false]), (5, [.slice ((lstE e).map encE)]), (7, [.int .i64 s.length])], tb := [], sh := [], hint := [] }) (by first | rfl | simp) ?_ ?_
        ·
          intro s x hel
          obtain ⟨hel, hsm⟩ := hel
          obtain ⟨hsl, rfl⟩ := elP_getE hel
          have hsn : ¬ (lstE e).length ≤ s.length := by omega
          refine AT_region_q fun K12 hK12 => ?_
          simp [row_map, hwr, AS.out, hce, hsl, hsn]
          repeat (refine ⟨by first | omega | (simp at *; omega), ?_⟩)
          refine hK12 _ ?_
          clear hK12 K12
          try simp only [thenA, inBlockA, noGotoA, ite_true, ite_false, reduceIte, Nat.reduceEqDiff]
          refine AT_block ?_
          refine AT_seq_k fun K13 hK13 => ?_
          refine AT_seq_draw Pt.mixed (by kernel_rfl) fun K14 hK14 => ?_
          have hmw := lstE_mem_wt e (lstE e)[s.length] (by simp)
          simp [row_map, hwr, AS.out, hsl, sameE_refl, hce, hsl, hsn]
          repeat (refine ⟨by first | omega | (simp at *; omega), ?_⟩)
          refine RVdn_call (c_ref05x_Same g true _ _ (by omega)) ?_
          simp [row_map, hwr, AS.out, hsl, sameE_refl, hce, hsl, hsn]
          repeat (refine ⟨by first | omega | (simp at *; omega), ?_⟩)
          refine hK14 _ ?_
          clear hK14 K14
          refine AT_cond (b := false) (g := none) (by simp [hsl, hce, hsl, hsn]) (fun hb => ?_) (fun hb => ?_)
          ·
            cases hb
          ·
            clear hb
            refine AT_skip ?_
            try simp only [thenA, inBlockA, noGotoA, ite_true, ite_false, reduceIte, Nat.reduceEqDiff]
            refine hK13 _ ?_
            refine AT_seq_region fun K15 hK15 => ?_
            simp [row_map, hwr, AS.out, hce, hsl, hsn]
            repeat (refine ⟨by first | omega | (simp at *; omega), ?_⟩)
            refine hK15 _ ?_
            clear hK15 K15
            refine AT_seq_region fun K16 hK16 => ?_
            simp [row_map, hwr, AS.out, hce, hsl, hsn]
            repeat (refine ⟨by first | omega | (simp at *; omega), ?_⟩)
            refine hK16 _ ?_
            clear hK16 K16
            refine AT_cond (g := none) rfl (fun hb43 => ?_) (fun hb43 => ?_)
            ·
              try simp [row_map, hwr, AS.out, hce, hsl, hsn] at hb43
              refine AT_exit ?_
              try simp only [thenA, inBlockA, noGotoA, ite_true, ite_false, reduceIte, Nat.reduceEqDiff]
              refine ⟨by simp only [goM, decide_eq_false_iff_not]; omega, by first | rfl | simp [tmOk], [3,4,5,7], by first | rfl | simp, ?_⟩
              refine AT_exit ?_
              try simp only [thenA, inBlockA, noGotoA, ite_true, ite_false, reduceIte, Nat.reduceEqDiff]
              refine hK9 _ ?_
              refine AT_seq_region fun K17 hK17 => ?_
              skip
              simp [row_map, hwr, AS.out, hce, hsl, hsn, hb43]
              repeat (refine ⟨by first | omega | (simp at *; omega), ?_⟩)
              refine hK17 _ ?_
              clear hK17 K17
              refine AT_ret ?_
              simp [row_map, hwr, AS.out, Tryd.f6]
              first | omega | (intro; omega) | skip
            ·
              try simp [row_map, hwr, AS.out, hce, hsl, hsn] at hb43
              refine AT_skip ?_
              try simp only [thenA, inBlockA, noGotoA, ite_true, ite_false, reduceIte, Nat.reduceEqDiff]
              refine ⟨by simp only [goM, decide_eq_true_eq]; omega, by first | rfl | simp [tmOk], [3,4,5,7], by first | rfl | simp, ?_⟩
              simp [AS.out]
        ·
          intro hfin
          obtain ⟨hf1, hf2⟩ := feedG_M m _ _ hfin
          rw [hf1]
          have hf3 : ((lstE e).length : Int) ≤ m := by
            rcases hf2 with h | h
            · have := congrArg List.length h
              rw [List.length_map] at this
              simp only [List.length_nil] at this; omega
            · simpa using h
          try simp only [thenA, inBlockA, noGotoA, ite_true, ite_false, reduceIte, Nat.reduceEqDiff]
          refine hK9 _ ?_
          refine AT_seq_region fun K18 hK18 => ?_
          skip
          simp [row_map, hwr, AS.out, hce]
          repeat (refine ⟨by first | omega | (simp at *; omega), ?_⟩)
          refine hK18 _ ?_
          clear hK18 K18
          refine AT_ret ?_
          simp [row_map, hwr, AS.out, Tryd.f6]
          first | omega | (intro; omega) | skip
  ·
    refine AT_seq_region fun K19 hK19 => ?_
    simp [row_map, hwr, AS.out, hce]
    repeat (refine ⟨by first | omega | (simp at *; omega), ?_⟩)
    try (
      refine RVn_call (c_law05x_awake g hres) ?_
      simp [row_map, hwr, AS.out, hce]
      repeat (refine ⟨by first | omega | (simp at *; omega), ?_⟩))
    try (
      refine RVn_call (c_ref05x_Few g false e hfe) ?_
      simp [row_map, hwr, AS.out, hce]
      repeat (refine ⟨by first | omega | (simp at *; omega), ?_⟩))
    refine hK19 _ ?_
    clear hK19 K19
    refine AT_cond (b := true) (g := none) (by simp [hce]) (fun hb => ?_) (fun hb => ?_)
    ·
      clear hb
      refine AT_seq_region fun K20 hK20 => ?_
      simp [row_map, hwr, AS.out, hce]
      repeat (refine ⟨by first | omega | (simp at *; omega), ?_⟩)
      refine RVn_call (c_law05x_awake g hres) ?_
      simp [row_map, hwr, AS.out, hce]
      repeat (refine ⟨by first | omega | (simp at *; omega), ?_⟩)
      refine hK20 _ ?_
      clear hK20 K20
      refine AT_ret ?_
      simp [row_map, hwr, AS.out, Tryd.f6]
      first | omega | (intro; omega) | skip
    ·
      cases hb

end Go.Proofs.YtjkabaejabibnaaDoor
end

import Derived.Test.YtepbmjchhcmcoaaGreatDoorPt
import Derived.Test.YtepbmjchhcmcoaaGreatDoorPvPb
import Derived.Test.YtepbmjchhcmcoaaGreatDoorPvY
import Derived.Test.YtepbmjchhcmcoaaGreatDoorXPaC
import Derived.Test.YtepbmjchhcmcoaaGreatDoorXLxC
import Derived.Test.YtepbmjchhcmcoaaGreatDoorXRdE
section
/- Contracts: programs, read. -/
set_option linter.all false
set_option maxHeartbeats 1000000
set_option maxRecDepth 10000
namespace Go.Proofs.YtepbmjchhcmcoaaGreatDoor
open Go Go.Pv
variable (g : Nat → Option (List AV)) (rnd : Bool)

theorem c_parse_parser_program (b N : Nat) (L : List Tk) (hL : ∀ t ∈ L, t.2.1.length ≤ 1000000) (hLn : L.length < 900000) (hN : L.length < N ∧ N ≤ 1000000) (hnm : ∀ s : Str, s.length ≤ 1000000 → Valid Tryz.prog (G0 g false) 129 [.str s] (.bool (isName s))) (c : Cur) (hcL : c.l <:+ L) : ValidD Tryz.prog (G0 g false) 66 [.ro [.gp b 0]] b (encC 92 c) (.agg (encPg (programC (typeC N) (exprC N) c).1)) (encC 92 (programC (typeC N) (exprC N) c).2) := by
 have hX := fun (c : Cur) (h2 : c.l <:+ L) => c_read_Cursor_Expr g b L hL (by omega) hnm N c (by have := h2.length_le; omega) hN.2 h2
 have hsT := typeC_suf N
 have hsE := exprC_suf N
 have hcl := hcL.length_le
 have h0L := (allC_suf [wPackage, wMain, [59]] c).trans hcL
 have h0l := h0L.length_le
 obtain ⟨D, hD⟩ : ∃ D, D = (declsC (typeC N) (exprC N) ((allC [wPackage, wMain, [59]] c).l.length + 1) (allC [wPackage, wMain, [59]] c)) := ⟨_, rfl⟩
 have hDL : D.2.l <:+ L := by rw [hD]; exact (declsC_suf hsT hsE _ _).trans h0L
 have hDl := hDL.length_le
 have haL := (allC_suf [wMain, [40], [41], [123], [95], [61]] D.2).trans hDL
 have hel := ((hsE (allC [wMain, [40], [41], [123], [95], [61]] D.2)).trans haL).length_le
 refine validD_of [(103000, 43)] Tryz.func66 rfl (by kernel_rfl) ?_
 refine sr fun Z z => ?_
 simp [encPg, pg0, ex0, ty0, Tryz.f66]
 refine z _ ?_
 clear z Z
 refine AT_scope ?_
 refine sr fun Z z => ?_
 simp [encPg, pg0, ex0, ty0]
 refine z _ ?_
 clear z Z
 refine sr fun Z z => ?_
 simp [encPg, pg0, ex0, ty0]
 refine RVn_callD (c_parse_parser_all g [wPackage, wMain, [59]] (by decide) b c (by omega)) rfl ?_
 simp [encPg, pg0, ex0, ty0]
 refine z _ ?_
 clear z Z
 refine AT_seq_k fun K1 hK1 => ?_
 refine AT_label ?_
 refine hK1 _ ?_
 refine AT_seq_k fun K2 hK2 => ?_
 refine AT_block ?_
 refine AT_loop_q [0,2,3] [2,3] (fun j s => ∃ k acc m, (declsC (typeC N) (exprC N) ((allC [wPackage, wMain, [59]] c).l.length + 1) (allC [wPackage, wMain, [59]] c)) = (acc ++ (declsC (typeC N) (exprC N) m k).1, (declsC (typeC N) (exprC N) m k).2) ∧ (k.l <:+ L ∧ k.l.length < m ∧ acc.length + m ≤ 1000001) ∧ j = m ∧ s = { n := 60, tm := [(0, .v (.ro [.gp b 0]) none), (2, .lp 2 0), (3, .lp 3 0)], bx := [(2, encPg pg0), (3, encPg ⟨acc, ex0⟩)], tb := [(3, 0, 103000, 43)], sh := [(b, (encC 92 k))], hint := [(103000, 43)] }) ((allC [wPackage, wMain, [59]] c).l.length + 1) (by first | rfl | simp) ?_ ?_
 ·
  exact ⟨(allC [wPackage, wMain, [59]] c), [], (allC [wPackage, wMain, [59]] c).l.length + 1, by simp, ⟨h0L, by omega, by simp; omega⟩, rfl, by simp [encPg, pg0, ex0, ty0, encTy_def, encE_mk, encE_def, encD, encG]⟩
 ·
  rintro j s ⟨k, acc, m, hq, ⟨hkL, hkm, ham⟩, rfl, rfl⟩ K3 hK3
  obtain ⟨m, rfl⟩ : ∃ i, j = i + 1 := ⟨j - 1, by omega⟩
  have hkl := hkL.length_le
  have haL2 := k.adv_suf.trans hkL
  have hal2 := haL2.length_le
  refine AT_block ?_
  refine AT_block ?_
  cases hty : k.next wType
  ·
   refine sr fun Z z => ?_
   simp [encPg, pg0, ex0, ty0, Cur.take, hty]
   refine RVn_callC (c_read_Cursor_Take g wType b k (by omega)) rfl ?_
   simp [encPg, pg0, ex0, ty0, Cur.take, hty]
   refine z _ ?_
   clear z Z
   refine cF (by simp [hty]) ?_
   cases hfn : k.next wFunc
   ·
    have hq9 : D = (acc, k.fail) := by
      rw [hD, hq, declsC, if_neg (by rw [hty]; exact Bool.false_ne_true), if_neg (by rw [hfn]; exact Bool.false_ne_true)]; simp
    have hDs := congrArg Prod.snd hq9
    have hDf := congrArg Prod.fst hq9
    simp only [] at hDs hDf
    refine sr fun Z z => ?_
    simp [encPg, pg0, ex0, ty0, Cur.take, hty, hfn]
    refine RVn_callC (c_read_Cursor_Take g wFunc b k (by omega)) rfl ?_
    simp [encPg, pg0, ex0, ty0, Cur.take, hty, hfn]
    refine z _ ?_
    clear z Z
    refine cT (by simp [hty, hfn]) ?_
    refine sr fun Z z => ?_
    simp [encPg, pg0, ex0, ty0, hty, hfn]
    refine RVn_callC ((by have h := c_read_Cursor_Must g wFunc b k (by omega); rw [Cur.must, if_neg (by rw [hfn]; exact Bool.false_ne_true), ← hDs] at h; exact h)) rfl ?_
    simp [encPg, pg0, ex0, ty0, hty, hfn]
    refine z _ ?_
    clear z Z
    refine AT_exit ?_
    refine hK2 _ ?_
    refine sr fun Z z => ?_
    simp [encPg, pg0, ex0, ty0, hty, hfn]
    refine RVn_callD ((by have h := c_parse_parser_all g [wMain, [40], [41], [123], [95], [61]] (by decide) b D.2 (by omega); first | exact h | (rw [hDs] at h; exact h))) rfl ?_
    simp [encPg, pg0, ex0, ty0, hty, hfn]
    refine z _ ?_
    clear z Z
    refine sr fun Z z => ?_
    simp [encPg, pg0, ex0, ty0, hty, hfn]
    refine RVn_callC ((by have h := hX (allC [wMain, [40], [41], [123], [95], [61]] D.2) haL; simp only [encE_def] at h; first | exact h | (rw [hDs] at h; exact h))) rfl ?_
    simp [encPg, pg0, ex0, ty0, hty, hfn]
    refine z _ ?_
    clear z Z
    refine sr fun Z z => ?_
    simp [encPg, pg0, ex0, ty0, hty, hfn]
    refine RVn_callC ((by have h := c_read_Cursor_Must g [125] b (exprC N (allC [wMain, [40], [41], [123], [95], [61]] D.2)).2 (by omega); first | exact h | (rw [hDs] at h; exact h))) rfl ?_
    simp [encPg, pg0, ex0, ty0, hty, hfn]
    refine z _ ?_
    clear z Z
    refine sr fun Z z => ?_
    simp [encPg, pg0, ex0, ty0, hty, hfn]
    refine z _ ?_
    clear z Z
    refine AT_ret ?_
    simp [encPg, pg0, ex0, ty0, Tryz.f66]
    all_goals simp [programC, ← hD, hDf, hDs, encPg, pg0, ex0, ty0, encTy_def, encE_mk, encE_def, encD, encG]
   ·
    refine sr fun Z z => ?_
    simp [encPg, pg0, ex0, ty0, Cur.take, hty, hfn]
    refine RVn_callC (c_read_Cursor_Take g wFunc b k (by omega)) rfl ?_
    simp [encPg, pg0, ex0, ty0, Cur.take, hty, hfn]
    refine z _ ?_
    clear z Z
    refine cF (by simp [hty, hfn]) ?_
    cases hmn : k.adv.next wMain
    ·
     refine sr fun Z z => ?_
     simp [encPg, pg0, ex0, ty0, hty, hfn, hmn]
     refine RVn_callC (c_read_Cursor_Next g wMain b k.adv (by omega)) rfl ?_
     simp [encPg, pg0, ex0, ty0, hty, hfn, hmn]
     refine z _ ?_
     clear z Z
     refine cF (by simp [hty, hfn, hmn]) ?_
     refine AT_any_q [0, 2, 3] [2, 3] (fun z9 => z9 = { n := 60, tm := [(0, .v (.ro [.gp b 0]) none), (2, .lp 2 0), (3, .lp 3 0)], bx := [(2, encPg pg0), (3, encPg ⟨acc ++ [(methodC (typeC N) (exprC N) k.adv).1], ex0⟩)], tb := [(3, 0, 103000, 43)], sh := [(b, (encC 92 (methodC (typeC N) (exprC N) k.adv).2))], hint := [(103000, 43)] }) Pt.mixed (fun K hK hQ => ?_) ?_
     ·
      refine ANY_take 0 (by rfl) hQ rfl rfl (by simp) (.inr ⟨_, _, _, _, _, _, rfl, rfl, Pt.foff_30_0, rfl⟩) (by kernel_rfl) (by kernel_rfl) (by kernel_rfl) ?_
      refine ANY_take 2 (by rfl) hQ rfl rfl (by simp) (.inl ⟨_, rfl, rfl⟩) (by kernel_rfl) (by kernel_rfl) (by kernel_rfl) ?_
      refine ANY_ready [1, 3] (by kernel_rfl) (by simp) ?_
      refine AnyAll.cons rfl (fun Z hZ => ?_) ?_
      ·
       simp [encPg, pg0, ex0, ty0, encPg, hty, hfn, hmn]
       refine hZ _ ?_
       clear hZ Z
       refine ANY_one 3 (by kernel_rfl) rfl fun Z hZ => ?_
       ·
        simp [encPg, pg0, ex0, ty0, encPg, hty, hfn, hmn]
        refine RVn_callD (c_parse_parser_method g b N L hL hLn hN hnm k.adv haL2) rfl ?_
        simp [encPg, pg0, ex0, ty0, encPg, hty, hfn, hmn]
        refine hZ _ ?_
        clear hZ Z
        refine ANY_one 4 (by kernel_rfl) rfl fun Z hZ => ?_
        ·
         simp [encPg, pg0, ex0, ty0, encPg, hty, hfn, hmn]
         refine hZ _ ?_
         clear hZ Z
         refine ANY_one 5 (by kernel_rfl) rfl fun Z hZ => ?_
         ·
          simp [encPg, pg0, ex0, ty0, encPg, hty, hfn, hmn]
          repeat refine sg ?_
          refine hZ _ ?_
          clear hZ Z
          refine ANY_take 6 (by rfl) hQ rfl rfl (by simp) (.inr ⟨_, _, _, _, _, _, rfl, rfl, Pt.foff_30_0, rfl⟩) (by kernel_rfl) (by kernel_rfl) (by kernel_rfl) ?_
          refine ANY_one 7 (by kernel_rfl) rfl fun Z hZ => ?_
          ·
           simp [encPg, pg0, ex0, ty0, encPg, hty, hfn, hmn]
           refine hZ _ ?_
           clear hZ Z
           refine ANY_done (by kernel_rfl) ?_
           refine hK _ (by first | rfl | simp) ?_
           simp [encPg, pg0, ex0, ty0, encTy_def, encE_mk, encE_def, encD, encG]
      refine AnyAll.cons rfl (fun Z hZ => ?_) ?_
      ·
       simp [encPg, pg0, ex0, ty0, encPg, hty, hfn, hmn]
       refine RVn_callD (c_parse_parser_method g b N L hL hLn hN hnm k.adv haL2) rfl ?_
       simp [encPg, pg0, ex0, ty0, encPg, hty, hfn, hmn]
       refine hZ _ ?_
       clear hZ Z
       refine ANY_ready [1, 4] (by kernel_rfl) (by simp) ?_
       refine AnyAll.cons rfl (fun Z hZ => ?_) ?_
       ·
        simp [encPg, pg0, ex0, ty0, encPg, hty, hfn, hmn]
        refine hZ _ ?_
        clear hZ Z
        refine ANY_one 4 (by kernel_rfl) rfl fun Z hZ => ?_
        ·
         simp [encPg, pg0, ex0, ty0, encPg, hty, hfn, hmn]
         refine hZ _ ?_
         clear hZ Z
         refine ANY_one 5 (by kernel_rfl) rfl fun Z hZ => ?_
         ·
          simp [encPg, pg0, ex0, ty0, encPg, hty, hfn, hmn]
          repeat refine sg ?_
          refine hZ _ ?_
          clear hZ Z
          refine ANY_take 6 (by rfl) hQ rfl rfl (by simp) (.inr ⟨_, _, _, _, _, _, rfl, rfl, Pt.foff_30_0, rfl⟩) (by kernel_rfl) (by kernel_rfl) (by kernel_rfl) ?_
          refine ANY_one 7 (by kernel_rfl) rfl fun Z hZ => ?_
          ·
           simp [encPg, pg0, ex0, ty0, encPg, hty, hfn, hmn]
           refine hZ _ ?_
           clear hZ Z
           refine ANY_done (by kernel_rfl) ?_
           refine hK _ (by first | rfl | simp) ?_
           simp [encPg, pg0, ex0, ty0, encTy_def, encE_mk, encE_def, encD, encG]
       refine AnyAll.cons rfl (fun Z hZ => ?_) ?_
       ·
        simp [encPg, pg0, ex0, ty0, encPg, hty, hfn, hmn]
        refine hZ _ ?_
        clear hZ Z
        refine ANY_one 1 (by kernel_rfl) rfl fun Z hZ => ?_
        ·
         simp [encPg, pg0, ex0, ty0, encPg, hty, hfn, hmn]
         refine hZ _ ?_
         clear hZ Z
         refine ANY_one 5 (by kernel_rfl) rfl fun Z hZ => ?_
         ·
          simp [encPg, pg0, ex0, ty0, encPg, hty, hfn, hmn]
          repeat refine sg ?_
          refine hZ _ ?_
          clear hZ Z
          refine ANY_take 6 (by rfl) hQ rfl rfl (by simp) (.inr ⟨_, _, _, _, _, _, rfl, rfl, Pt.foff_30_0, rfl⟩) (by kernel_rfl) (by kernel_rfl) (by kernel_rfl) ?_
          refine ANY_one 7 (by kernel_rfl) rfl fun Z hZ => ?_
          ·
           simp [encPg, pg0, ex0, ty0, encPg, hty, hfn, hmn]
           refine hZ _ ?_
           clear hZ Z
           refine ANY_done (by kernel_rfl) ?_
           refine hK _ (by first | rfl | simp) ?_
           simp [encPg, pg0, ex0, ty0, encTy_def, encE_mk, encE_def, encD, encG]
       exact AnyAll.nil
      exact AnyAll.nil
     rintro _ rfl
     refine hK3 _ (by first | rfl | simp) (m) (by omega) ?_
     (· have ha := Cur.adv_len hfn
        have ht := (methodC_suf hsT hsE k.adv).length_le
        refine ⟨(methodC (typeC N) (exprC N) k.adv).2, acc ++ [(methodC (typeC N) (exprC N) k.adv).1], m, by rw [hq, declsC, if_neg (by rw [hty]; exact Bool.false_ne_true), if_pos hfn, if_neg (by rw [hmn]; exact Bool.false_ne_true)]; simp, ⟨(methodC_suf hsT hsE _).trans haL2, by omega, by simp; omega⟩, rfl, by simp [encPg, pg0, ex0, ty0, encTy_def, encE_mk, encE_def, encD, encG]⟩)
    ·
     have hq9 : D = (acc, k.adv) := by
       rw [hD, hq, declsC, if_neg (by rw [hty]; exact Bool.false_ne_true), if_pos hfn, if_pos hmn]; simp
     have hDs := congrArg Prod.snd hq9
     have hDf := congrArg Prod.fst hq9
     simp only [] at hDs hDf
     refine sr fun Z z => ?_
     simp [encPg, pg0, ex0, ty0, hty, hfn, hmn]
     refine RVn_callC (c_read_Cursor_Next g wMain b k.adv (by omega)) rfl ?_
     simp [encPg, pg0, ex0, ty0, hty, hfn, hmn]
     refine z _ ?_
     clear z Z
     refine cT (by simp [hty, hfn, hmn]) ?_
     refine AT_exit ?_
     refine hK2 _ ?_
     refine sr fun Z z => ?_
     simp [encPg, pg0, ex0, ty0, hty, hfn, hmn]
     refine RVn_callD ((by have h := c_parse_parser_all g [wMain, [40], [41], [123], [95], [61]] (by decide) b D.2 (by omega); first | exact h | (rw [hDs] at h; exact h))) rfl ?_
     simp [encPg, pg0, ex0, ty0, hty, hfn, hmn]
     refine z _ ?_
     clear z Z
     refine sr fun Z z => ?_
     simp [encPg, pg0, ex0, ty0, hty, hfn, hmn]
     refine RVn_callC ((by have h := hX (allC [wMain, [40], [41], [123], [95], [61]] D.2) haL; simp only [encE_def] at h; first | exact h | (rw [hDs] at h; exact h))) rfl ?_
     simp [encPg, pg0, ex0, ty0, hty, hfn, hmn]
     refine z _ ?_
     clear z Z
     refine sr fun Z z => ?_
     simp [encPg, pg0, ex0, ty0, hty, hfn, hmn]
     refine RVn_callC ((by have h := c_read_Cursor_Must g [125] b (exprC N (allC [wMain, [40], [41], [123], [95], [61]] D.2)).2 (by omega); first | exact h | (rw [hDs] at h; exact h))) rfl ?_
     simp [encPg, pg0, ex0, ty0, hty, hfn, hmn]
     refine z _ ?_
     clear z Z
     refine sr fun Z z => ?_
     simp [encPg, pg0, ex0, ty0, hty, hfn, hmn]
     refine z _ ?_
     clear z Z
     refine AT_ret ?_
     simp [encPg, pg0, ex0, ty0, Tryz.f66]
     all_goals simp [programC, ← hD, hDf, hDs, encPg, pg0, ex0, ty0, encTy_def, encE_mk, encE_def, encD, encG]
  ·
   refine sr fun Z z => ?_
   simp [encPg, pg0, ex0, ty0, Cur.take, hty]
   refine RVn_callC (c_read_Cursor_Take g wType b k (by omega)) rfl ?_
   simp [encPg, pg0, ex0, ty0, Cur.take, hty]
   refine z _ ?_
   clear z Z
   refine cT (by simp [hty]) ?_
   refine AT_any_q [0, 2, 3] [2, 3] (fun z9 => z9 = { n := 60, tm := [(0, .v (.ro [.gp b 0]) none), (2, .lp 2 0), (3, .lp 3 0)], bx := [(2, encPg pg0), (3, encPg ⟨acc ++ [(typedC (typeC N) k.adv).1], ex0⟩)], tb := [(3, 0, 103000, 43)], sh := [(b, (encC 92 (typedC (typeC N) k.adv).2))], hint := [(103000, 43)] }) Pt.mixed (fun K hK hQ => ?_) ?_
   ·
    refine ANY_take 0 (by rfl) hQ rfl rfl (by simp) (.inr ⟨_, _, _, _, _, _, rfl, rfl, Pt.foff_30_0, rfl⟩) (by kernel_rfl) (by kernel_rfl) (by kernel_rfl) ?_
    refine ANY_take 2 (by rfl) hQ rfl rfl (by simp) (.inl ⟨_, rfl, rfl⟩) (by kernel_rfl) (by kernel_rfl) (by kernel_rfl) ?_
    refine ANY_ready [1, 3] (by kernel_rfl) (by simp) ?_
    refine AnyAll.cons rfl (fun Z hZ => ?_) ?_
    ·
     simp [encPg, pg0, ex0, ty0, encPg, hty]
     refine hZ _ ?_
     clear hZ Z
     refine ANY_one 3 (by kernel_rfl) rfl fun Z hZ => ?_
     ·
      simp [encPg, pg0, ex0, ty0, encPg, hty]
      refine RVn_callD (c_parse_parser_typed g b N L hL hLn hN hnm k.adv haL2) rfl ?_
      simp [encPg, pg0, ex0, ty0, encPg, hty]
      refine hZ _ ?_
      clear hZ Z
      refine ANY_one 4 (by kernel_rfl) rfl fun Z hZ => ?_
      ·
       simp [encPg, pg0, ex0, ty0, encPg, hty]
       refine hZ _ ?_
       clear hZ Z
       refine ANY_one 5 (by kernel_rfl) rfl fun Z hZ => ?_
       ·
        simp [encPg, pg0, ex0, ty0, encPg, hty]
        repeat refine sg ?_
        refine hZ _ ?_
        clear hZ Z
        refine ANY_take 6 (by rfl) hQ rfl rfl (by simp) (.inr ⟨_, _, _, _, _, _, rfl, rfl, Pt.foff_30_0, rfl⟩) (by kernel_rfl) (by kernel_rfl) (by kernel_rfl) ?_
        refine ANY_one 7 (by kernel_rfl) rfl fun Z hZ => ?_
        ·
         simp [encPg, pg0, ex0, ty0, encPg, hty]
         refine hZ _ ?_
         clear hZ Z
         refine ANY_done (by kernel_rfl) ?_
         refine hK _ (by first | rfl | simp) ?_
         simp [encPg, pg0, ex0, ty0, encTy_def, encE_mk, encE_def, encD, encG]
    refine AnyAll.cons rfl (fun Z hZ => ?_) ?_
    ·
     simp [encPg, pg0, ex0, ty0, encPg, hty]
     refine RVn_callD (c_parse_parser_typed g b N L hL hLn hN hnm k.adv haL2) rfl ?_
     simp [encPg, pg0, ex0, ty0, encPg, hty]
     refine hZ _ ?_
     clear hZ Z
     refine ANY_ready [1, 4] (by kernel_rfl) (by simp) ?_
     refine AnyAll.cons rfl (fun Z hZ => ?_) ?_
     ·
      simp [encPg, pg0, ex0, ty0, encPg, hty]
      refine hZ _ ?_
      clear hZ Z
      refine ANY_one 4 (by kernel_rfl) rfl fun Z hZ => ?_
      ·
       simp [encPg, pg0, ex0, ty0, encPg, hty]
       refine hZ _ ?_
       clear hZ Z
       refine ANY_one 5 (by kernel_rfl) rfl fun Z hZ => ?_
       ·
        simp [encPg, pg0, ex0, ty0, encPg, hty]
        repeat refine sg ?_
        refine hZ _ ?_
        clear hZ Z
        refine ANY_take 6 (by rfl) hQ rfl rfl (by simp) (.inr ⟨_, _, _, _, _, _, rfl, rfl, Pt.foff_30_0, rfl⟩) (by kernel_rfl) (by kernel_rfl) (by kernel_rfl) ?_
        refine ANY_one 7 (by kernel_rfl) rfl fun Z hZ => ?_
        ·
         simp [encPg, pg0, ex0, ty0, encPg, hty]
         refine hZ _ ?_
         clear hZ Z
         refine ANY_done (by kernel_rfl) ?_
         refine hK _ (by first | rfl | simp) ?_
         simp [encPg, pg0, ex0, ty0, encTy_def, encE_mk, encE_def, encD, encG]
     refine AnyAll.cons rfl (fun Z hZ => ?_) ?_
     ·
      simp [encPg, pg0, ex0, ty0, encPg, hty]
      refine hZ _ ?_
      clear hZ Z
      refine ANY_one 1 (by kernel_rfl) rfl fun Z hZ => ?_
      ·
       simp [encPg, pg0, ex0, ty0, encPg, hty]
       refine hZ _ ?_
       clear hZ Z
       refine ANY_one 5 (by kernel_rfl) rfl fun Z hZ => ?_
       ·
        simp [encPg, pg0, ex0, ty0, encPg, hty]
        repeat refine sg ?_
        refine hZ _ ?_
        clear hZ Z
        refine ANY_take 6 (by rfl) hQ rfl rfl (by simp) (.inr ⟨_, _, _, _, _, _, rfl, rfl, Pt.foff_30_0, rfl⟩) (by kernel_rfl) (by kernel_rfl) (by kernel_rfl) ?_
        refine ANY_one 7 (by kernel_rfl) rfl fun Z hZ => ?_
        ·
         simp [encPg, pg0, ex0, ty0, encPg, hty]
         refine hZ _ ?_
         clear hZ Z
         refine ANY_done (by kernel_rfl) ?_
         refine hK _ (by first | rfl | simp) ?_
         simp [encPg, pg0, ex0, ty0, encTy_def, encE_mk, encE_def, encD, encG]
     exact AnyAll.nil
    exact AnyAll.nil
   rintro _ rfl
   refine hK3 _ (by first | rfl | simp) (m) (by omega) ?_
   (· have ha := Cur.adv_len hty
      have ht := (typedC_suf hsT k.adv).length_le
      refine ⟨(typedC (typeC N) k.adv).2, acc ++ [(typedC (typeC N) k.adv).1], m, by rw [hq, declsC, if_pos hty]; simp, ⟨(typedC_suf hsT _).trans haL2, by omega, by simp; omega⟩, rfl, by simp [encPg, pg0, ex0, ty0, encTy_def, encE_mk, encE_def, encD, encG]⟩)

end Go.Proofs.YtepbmjchhcmcoaaGreatDoor
end

section
/- Contracts: texts of programs, read. -/
set_option linter.all false
set_option maxHeartbeats 1000000
set_option maxRecDepth 10000
namespace Go.Proofs.YtepbmjchhcmcoaaGreatDoor
open Go Go.Pv
variable (g : Nat → Option (List AV)) (rnd : Bool)

theorem c_parse_whole_api_Program (s : Str) (hs : s.length ≤ 1000000) (hres : g 2 = some reservedA) : Valid Tryz.prog (G0 g false) 65 [.str s, .func 66 []] (.tup [.agg (encPg (wholeC 92 pg0 rdP s).1), (wholeC 92 pg0 rdP s).2]) := by

 refine valid_of [] Tryz.func65 rfl (by kernel_rfl) ?_
 refine sr fun Z z => ?_
 simp [lexV, Tryz.f65]
 refine z _ ?_
 clear z Z
 refine sr fun Z z => ?_
 simp [lexV]
 refine z _ ?_
 clear z Z
 rcases hx : lexT s with ⟨_ | l, m⟩
 ·
  refine sr fun Z z => ?_
  simp [lexV]
  refine RVn_call ((by have h := c_lex_Tokens g false s (by omega); rw [hx] at h; exact h)) ?_
  simp [lexV]
  refine z _ ?_
  clear z Z
  refine AT_seq_k fun K1 hK1 => ?_
  refine sr fun Z z => ?_
  simp [lexV]
  refine z _ ?_
  clear z Z
  refine cT (by simp) ?_
  refine sr fun Z z => ?_
  simp [lexV]
  refine z _ ?_
  clear z Z
  refine AT_ret ?_
  simp [lexV, Tryz.f65]
  all_goals first | (· simp [wholeC, hx, encPg, pg0, ex0, ty0, encTy_def, encE_mk, encE_def, encD, encG]) | (· simp [wholeC, hx, ← hp, he, errA, encPg, pg0, ex0, ty0, encTy_def, encE_mk, encE_def, encD, encG])
 ·
  obtain ⟨hsl, hll, hlt⟩ := lexT_bounds hx
  obtain ⟨p, hp⟩ : ∃ p, p = rdP l := ⟨_, rfl⟩
  have hpl : p.2.l.length ≤ l.length := by rw [hp]; exact (programC_suf (typeC_suf _) (exprC_suf _) _).length_le
  refine sr fun Z z => ?_
  simp [lexV]
  refine RVn_call ((by have h := c_lex_Tokens g false s (by omega); rw [hx] at h; exact h)) ?_
  simp [lexV]
  refine z _ ?_
  clear z Z
  refine AT_seq_k fun K2 hK2 => ?_
  refine sr fun Z z => ?_
  simp [lexV]
  refine z _ ?_
  clear z Z
  refine cF (by simp) ?_
  refine AT_skip ?_
  refine hK2 _ ?_
  refine sr fun Z z => ?_
  simp [lexV]
  refine RVn_callN (c_read_New g l) fun b => ?_
  simp [lexV]
  refine z _ ?_
  clear z Z
  refine AT_freeze 24 rfl (by simp) (noClP_of (by simp)) rfl ?_
  simp
  refine sr fun Z z => ?_
  simp [lexV]
  refine RVn_callD ((by have h := c_parse_parser_program g b (l.length + 1) l (fun t ht => by have := hlt t ht; omega) (by omega) ⟨by omega, by omega⟩ (fun s hs => c_name_Is g false s (by omega) hres) ⟨l, none⟩ (List.suffix_refl _); rw [show programC (typeC (l.length + 1)) (exprC (l.length + 1)) ⟨l, none⟩ = p from hp.symm] at h; exact h)) rfl ?_
  simp [lexV]
  refine z _ ?_
  clear z Z
  refine AT_seq_k fun K3 hK3 => ?_
  refine sr fun Z z => ?_
  simp [lexV]
  refine RVn_callC (c_read_Cursor_End g b p.2 (by omega)) rfl ?_
  simp [lexV]
  refine z _ ?_
  clear z Z
  cases he : (endC p.2).err
  ·
   refine sr fun Z z => ?_
   simp [lexV, errA, he]
   refine z _ ?_
   clear z Z
   refine cF (by simp [he]) ?_
   refine AT_skip ?_
   refine hK3 _ ?_
   refine sr fun Z z => ?_
   simp [lexV, he]
   refine z _ ?_
   clear z Z
   refine AT_ret ?_
   simp [lexV, Tryz.f65]
   all_goals first | (· simp [wholeC, hx, encPg, pg0, ex0, ty0, encTy_def, encE_mk, encE_def, encD, encG]) | (· simp [wholeC, hx, ← hp, he, errA, encPg, pg0, ex0, ty0, encTy_def, encE_mk, encE_def, encD, encG])
  ·
   refine sr fun Z z => ?_
   simp [lexV, errA, he]
   refine z _ ?_
   clear z Z
   refine cT (by simp [he]) ?_
   refine sr fun Z z => ?_
   simp [lexV, he]
   refine z _ ?_
   clear z Z
   refine AT_ret ?_
   simp [lexV, Tryz.f65]
   all_goals first | (· simp [wholeC, hx, encPg, pg0, ex0, ty0, encTy_def, encE_mk, encE_def, encD, encG]) | (· simp [wholeC, hx, ← hp, he, errA, encPg, pg0, ex0, ty0, encTy_def, encE_mk, encE_def, encD, encG])

theorem c_parse_Program (s : Str) (hs : s.length ≤ 1000000) (hres : g 2 = some reservedA) : Valid Tryz.prog (G0 g false) 32 [.str s] (.tup [.agg (encPg (wholeC 92 pg0 rdP s).1), (wholeC 92 pg0 rdP s).2]) := by

 refine valid_of [] Tryz.func32 rfl (by kernel_rfl) ?_
 refine sr fun Z z => ?_
 simp [Tryz.f32]
 refine z _ ?_
 clear z Z
 refine sr fun Z z => ?_
 simp
 refine RVn_call (c_parse_whole_api_Program g s hs hres) ?_
 simp
 refine z _ ?_
 clear z Z
 refine AT_ret ?_
 simp [Tryz.f32]

end Go.Proofs.YtepbmjchhcmcoaaGreatDoor
end

section
/- Contracts. -/
set_option linter.all false
set_option maxHeartbeats 1000000
set_option maxRecDepth 10000
namespace Go.Proofs.YtepbmjchhcmcoaaGreatDoor
open Go Go.Pv
variable (g : Nat → Option (List AV)) (rnd : Bool)

end Go.Proofs.YtepbmjchhcmcoaaGreatDoor
end

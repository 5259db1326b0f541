import Derived.Test.YtepbmjchhcmcoaaGreatDoorPt
import Derived.Test.YtepbmjchhcmcoaaGreatDoorPvPb
import Derived.Test.YtepbmjchhcmcoaaGreatDoorPvY
import Derived.Test.YtepbmjchhcmcoaaGreatDoorPvFc
import Derived.Test.YtepbmjchhcmcoaaGreatDoorXTyE
import Derived.Test.YtepbmjchhcmcoaaGreatDoorXExC
import Derived.Test.YtepbmjchhcmcoaaGreatDoorPvDe
section
/- Contracts: the reference's texts. -/
set_option linter.all false
set_option maxHeartbeats 1000000
set_option maxRecDepth 10000
namespace Go.Proofs.YtepbmjchhcmcoaaGreatDoor
open Go Go.Pv
variable (g : Nat → Option (List AV)) (rnd : Bool)

theorem c_ref09x_formals (l : List Fm) (hw : wtFs l ≤ 1000000000) : Valid Tryz.prog (G0 g rnd) 63 [.slice (l.map encF)] (.str (fmsT l)) := by
 have hll := wtFs_len l
 refine valid_of [] Tryz.func63 rfl (by kernel_rfl) ?_
 refine sr fun Z z => ?_
 simp [row_map, encF, Tryz.f63]
 refine z _ ?_
 clear z Z
 refine sr fun Z z => ?_
 simp [row_map, encF]
 refine z _ ?_
 clear z Z
 refine AT_seq_k fun K1 hK1 => ?_
 refine sr fun Z z => ?_
 simp [row_map, encF]
 refine z _ ?_
 clear z Z
 refine AT_block ?_
 refine AT_loop_q [0,3,4] [] (fun j s => ∃ k, k ≤ l.length ∧ j = l.length - k ∧ s = { n := 35, tm := [(0, .v (.slice (l.map encF)) none), (3, .v (.str (bK (l.map txF) k)) none), (4, .v (.int .i64 k) none)], bx := [], tb := [], sh := [], hint := [] }) (l.length) (by first | rfl | simp) ?_ ?_
 ·
  exact ⟨0, by simp [bK_zero]⟩
 ·
  rintro j s ⟨k, hk, rfl, rfl⟩ K2 hK2
  refine AT_seq_k fun K3 hK3 => ?_
  refine sr fun Z z => ?_
  simp [row_map, encF]
  refine z _ ?_
  clear z Z
  refine AT_cond (g := none) rfl (fun hb8 => ?_) (fun hb8 => ?_)
  ·
   simp [row_map, encF] at hb8
   refine AT_skip ?_
   simp only [nrm, reduceIte, Nat.reduceEqDiff]
   refine hK3 _ ?_
   refine AT_seq_k fun K4 hK4 => ?_
   refine AT_block ?_
   refine AT_seq_k fun K5 hK5 => ?_
   have hk9 : k < l.length := by omega
   have hm9 := wtFs_mem (l := l) (f := l[k]) (by simp)
   have hm8 : wtF l[k] = l[k].name.length + 1 + wt l[k].ty := rfl
   have hx9 := txt_wt l[k].ty
   have hj9 := jK_F l k
   have hq9 := bK_len (l.map txF) k
   by_cases hk0 : k = 0
   ·
    have hk0b : ((k : Int) == 0) = true := by rw [beq_iff_eq]; omega
    have hb9 := bK_at0 (l.map txF) k (by simpa using hk9) hk0
    simp only [List.getElem_map] at hb9
    refine sr fun Z z => ?_
    simp [row_map, encF, hb8, hk0b]
    refine z _ ?_
    clear z Z
    refine AT_cond (b := true) (g := none) (by simp [hb8, hk0b]) (fun hb => ?_) (fun hb => ?_)
    ·
     clear hb
     refine AT_region_q fun Z z => ?_
     simp [row_map, encF, hb8, hk0b]
     refine z _ ?_
     clear z Z
     simp only [nrm, reduceIte, Nat.reduceEqDiff]
     refine hK5 _ ?_
     refine AT_draw_q Pt.mixed (by kernel_rfl) fun Z z => ?_
     simp [row_map, encF, hb8, hk0b]
     repeat refine sg ?_
     refine RVdn_call ((by have h := c_ref04x_Text g rnd l[k].ty (by omega); simp only [encTy_def] at h; exact h)) ?_
     simp [row_map, encF, hb8, hk0b]
     repeat refine sg ?_
     refine z _ ?_
     clear z Z
     simp only [nrm, reduceIte, Nat.reduceEqDiff]
     refine hK4 _ ?_
     refine AT_region_q fun Z z => ?_
     simp [row_map, encF, hb8, hk0b]
     repeat refine sg ?_
     refine z _ ?_
     clear z Z
     simp only [nrm, reduceIte, Nat.reduceEqDiff]
     refine hK2 _ (by first | rfl | simp) (l.length - (k+1)) (by omega) ?_
     refine ⟨k+1, by omega, by omega, ?_⟩
     simp [hb9, txF]
    ·
     cases hb
   ·
    have hk0b : ((k : Int) == 0) = false := by rw [beq_eq_false_iff_ne]; omega
    have hb9 := bK_succ (l.map txF) k (by simpa using hk9) hk0
    simp only [List.getElem_map] at hb9
    refine sr fun Z z => ?_
    simp [row_map, encF, hb8, hk0b]
    refine z _ ?_
    clear z Z
    refine AT_cond (b := false) (g := none) (by simp [hb8, hk0b]) (fun hb => ?_) (fun hb => ?_)
    ·
     cases hb
    ·
     clear hb
     refine AT_region_q fun Z z => ?_
     simp [row_map, encF, hb8, hk0b]
     repeat refine sg ?_
     refine z _ ?_
     clear z Z
     simp only [nrm, reduceIte, Nat.reduceEqDiff]
     refine hK5 _ ?_
     refine AT_draw_q Pt.mixed (by kernel_rfl) fun Z z => ?_
     simp [row_map, encF, hb8, hk0b]
     repeat refine sg ?_
     refine RVdn_call ((by have h := c_ref04x_Text g rnd l[k].ty (by omega); simp only [encTy_def] at h; exact h)) ?_
     simp [row_map, encF, hb8, hk0b]
     repeat refine sg ?_
     refine z _ ?_
     clear z Z
     simp only [nrm, reduceIte, Nat.reduceEqDiff]
     refine hK4 _ ?_
     refine AT_region_q fun Z z => ?_
     simp [row_map, encF, hb8, hk0b]
     repeat refine sg ?_
     refine z _ ?_
     clear z Z
     simp only [nrm, reduceIte, Nat.reduceEqDiff]
     refine hK2 _ (by first | rfl | simp) (l.length - (k+1)) (by omega) ?_
     refine ⟨k+1, by omega, by omega, ?_⟩
     simp [hb9, txF]
  ·
   simp [row_map, encF] at hb8
   refine AT_exit ?_
   simp only [nrm, reduceIte, Nat.reduceEqDiff]
   refine hK1 _ ?_
   refine AT_seq_k fun K6 hK6 => ?_
   have hk9 : k = l.length := by omega
   subst hk9
   have hj9 := jK_F l l.length
   have hq9 := bK_len (l.map txF) l.length
   cases he : l.isEmpty
   ·
    have hne := ne_of_isEmpty he
    have hnl : ¬ l.length = 0 := fun h => hne (List.eq_nil_of_length_eq_zero h)
    have hbk : (bK (l.map txF) l.length == []) = false := by rw [bK, if_neg hnl]; rfl
    have hft : fmsT l = bK (l.map txF) l.length ++ [93] := by rw [fmsT_bK, if_neg (by rw [he]; exact Bool.false_ne_true)]
    refine sr fun Z z => ?_
    simp [row_map, encF, hb8, hbk]
    refine z _ ?_
    clear z Z
    refine AT_cond (b := true) (g := none) (by simp [hb8, hbk]) (fun hb => ?_) (fun hb => ?_)
    ·
     clear hb
     refine AT_region_q fun Z z => ?_
     simp [row_map, encF, hb8, hbk]
     repeat refine sg ?_
     refine z _ ?_
     clear z Z
     simp only [nrm, reduceIte, Nat.reduceEqDiff]
     refine hK6 _ ?_
     refine sr fun Z z => ?_
     simp [row_map, encF, hb8, hbk]
     refine z _ ?_
     clear z Z
     refine AT_ret ?_
     simp [row_map, encF, Tryz.f63]
     all_goals first | (· rw [hft]) | (· simp [hft]) | skip
    ·
     cases hb
   ·
    have hl0 := List.isEmpty_iff.1 he
    have hbk : (bK (l.map txF) l.length == []) = true := by rw [hl0]; rfl
    have hft : fmsT l = bK (l.map txF) l.length := by rw [hl0]; rfl
    refine sr fun Z z => ?_
    simp [row_map, encF, hb8, hbk]
    refine z _ ?_
    clear z Z
    refine AT_cond (b := false) (g := none) (by simp [hb8, hbk]) (fun hb => ?_) (fun hb => ?_)
    ·
     cases hb
    ·
     clear hb
     refine AT_skip ?_
     simp only [nrm, reduceIte, Nat.reduceEqDiff]
     refine hK6 _ ?_
     refine sr fun Z z => ?_
     simp [row_map, encF, hb8, hbk]
     refine z _ ?_
     clear z Z
     refine AT_ret ?_
     simp [row_map, encF, Tryz.f63]
     all_goals first | (· rw [hft]) | (· simp [hft]) | skip

theorem c_ref09x_Sig (s : Sg) (hw : wtG s ≤ 400000000) : Valid Tryz.prog (G0 g rnd) 62 [.agg (encG s)] (.str (sigT s)) := by
 have hw2 : s.name.length + 1 + wtFs s.fms + wtFs s.pms + wt s.res ≤ 400000000 := hw
 have hxt := txt_wt s.res
 have hfl := fmsT_wt s.fms
 have hpl := wtFs_len s.pms
 refine valid_of [] Tryz.func62 rfl (by kernel_rfl) ?_
 refine sr fun Z z => ?_
 simp [row_map, encG, encF, Tryz.f62]
 refine z _ ?_
 clear z Z
 refine AT_seq_draw Pt.mixed (by kernel_rfl) fun Z z => ?_
 simp [row_map, encG, encF]
 refine RVdn_call (c_ref09x_formals g rnd s.fms (by omega)) ?_
 simp [row_map, encG, encF]
 repeat refine sg ?_
 refine z _ ?_
 clear z Z
 refine AT_seq_k fun K1 hK1 => ?_
 refine sr fun Z z => ?_
 simp [row_map, encG, encF]
 refine z _ ?_
 clear z Z
 refine AT_block ?_
 refine AT_loop_q [1,3,4] [1] (fun j s1 => ∃ k, k ≤ s.pms.length ∧ j = s.pms.length - k ∧ s1 = { n := 46, tm := [(1, .lp 1 0), (3, .v (.str (s.name ++ fmsT s.fms ++ [40] ++ jK (s.pms.map txF) k)) none), (4, .v (.int .i64 k) none)], bx := [(1, encG s)], tb := [], sh := [], hint := [] }) (s.pms.length) (by first | rfl | simp) ?_ ?_
 exact ⟨0, by simp [jK_zero, encG]⟩
 rintro j s1 ⟨k, hk, rfl, rfl⟩ K2 hK2
 refine AT_seq_k fun K3 hK3 => ?_
 refine sr fun Z z => ?_
 simp [row_map, encG, encF]
 refine z _ ?_
 clear z Z
 refine AT_cond (g := none) rfl (fun hb16 => ?_) (fun hb16 => ?_)
 simp [row_map, encG, encF] at hb16
 refine AT_skip ?_
 simp only [nrm, reduceIte, Nat.reduceEqDiff]
 refine hK3 _ ?_
 refine AT_seq_k fun K4 hK4 => ?_
 refine AT_block ?_
 refine AT_seq_k fun K5 hK5 => ?_
 have hk9 : k < s.pms.length := by omega
 have hm9 := wtFs_mem (l := s.pms) (f := s.pms[k]) (by simp)
 have hm8 : wtF s.pms[k] = s.pms[k].name.length + 1 + wt s.pms[k].ty := rfl
 have hx9 := txt_wt s.pms[k].ty
 have hj9 := jK_F s.pms k
 by_cases hk0 : k = 0
 have hkc : (0 < k) = False := eq_false (by omega)
 have hb9 := jK_at0 (s.pms.map txF) k (by simpa using hk9) hk0
 simp only [List.getElem_map] at hb9
 refine sr fun Z z => ?_
 simp [row_map, encG, encF, hb16, hkc]
 refine z _ ?_
 clear z Z
 refine AT_cond (b := false) (g := none) (by simp [hb16, hkc]) (fun hb => ?_) (fun hb => ?_)
 cases hb
 clear hb
 refine AT_skip ?_
 simp only [nrm, reduceIte, Nat.reduceEqDiff]
 refine hK5 _ ?_
 refine AT_draw_q Pt.mixed (by kernel_rfl) fun Z z => ?_
 simp [row_map, encG, encF, hb16, hkc]
 repeat refine sg ?_
 refine RVdn_call ((by have h := c_ref04x_Text g rnd s.pms[k].ty (by omega); simp only [encTy_def] at h; exact h)) ?_
 simp [row_map, encG, encF, hb16, hkc]
 repeat refine sg ?_
 refine z _ ?_
 clear z Z
 simp only [nrm, reduceIte, Nat.reduceEqDiff]
 refine hK4 _ ?_
 refine AT_region_q fun Z z => ?_
 simp [row_map, encG, encF, hb16, hkc]
 repeat refine sg ?_
 refine z _ ?_
 clear z Z
 simp only [nrm, reduceIte, Nat.reduceEqDiff]
 refine hK2 _ (by first | rfl | simp) (s.pms.length - (k+1)) (by omega) ?_
 refine ⟨k+1, by omega, by omega, ?_⟩
 simp [hb9, txF, encG]
 have hkc : (0 < k) = True := eq_true (by omega)
 have hb9 := jK_succ (s.pms.map txF) k (by simpa using hk9) hk0
 simp only [List.getElem_map] at hb9
 refine sr fun Z z => ?_
 simp [row_map, encG, encF, hb16, hkc]
 refine z _ ?_
 clear z Z
 refine AT_cond (b := true) (g := none) (by simp [hb16, hkc]) (fun hb => ?_) (fun hb => ?_)
 clear hb
 refine AT_region_q fun Z z => ?_
 simp [row_map, encG, encF, hb16, hkc]
 repeat refine sg ?_
 refine z _ ?_
 clear z Z
 simp only [nrm, reduceIte, Nat.reduceEqDiff]
 refine hK5 _ ?_
 refine AT_draw_q Pt.mixed (by kernel_rfl) fun Z z => ?_
 simp [row_map, encG, encF, hb16, hkc]
 repeat refine sg ?_
 refine RVdn_call ((by have h := c_ref04x_Text g rnd s.pms[k].ty (by omega); simp only [encTy_def] at h; exact h)) ?_
 simp [row_map, encG, encF, hb16, hkc]
 repeat refine sg ?_
 refine z _ ?_
 clear z Z
 simp only [nrm, reduceIte, Nat.reduceEqDiff]
 refine hK4 _ ?_
 refine AT_region_q fun Z z => ?_
 simp [row_map, encG, encF, hb16, hkc]
 repeat refine sg ?_
 refine z _ ?_
 clear z Z
 simp only [nrm, reduceIte, Nat.reduceEqDiff]
 refine hK2 _ (by first | rfl | simp) (s.pms.length - (k+1)) (by omega) ?_
 refine ⟨k+1, by omega, by omega, ?_⟩
 simp [hb9, txF, encG]
 cases hb
 simp [row_map, encG, encF] at hb16
 refine AT_exit ?_
 simp only [nrm, reduceIte, Nat.reduceEqDiff]
 refine hK1 _ ?_
 refine sr fun Z z => ?_
 have hk9 : k = s.pms.length := by omega
 subst hk9
 have hj9 := jK_F s.pms s.pms.length
 have hja := jK_all (s.pms.map txF)
 rw [List.length_map] at hja
 simp [row_map, encG, encF, hb16]
 repeat refine sg ?_
 refine RVn_call ((by have h := c_ref04x_Text g rnd s.res (by omega); simp only [encTy_def] at h; exact h)) ?_
 simp [row_map, encG, encF, hb16]
 repeat refine sg ?_
 refine z _ ?_
 clear z Z
 refine AT_ret ?_
 simp [row_map, encG, encF, Tryz.f62]
 simp [sigT, hja]

end Go.Proofs.YtepbmjchhcmcoaaGreatDoor
end

section
/- Contracts: the reference's texts of declarations and programs. -/
set_option linter.all false
set_option maxHeartbeats 1000000
set_option maxRecDepth 10000
namespace Go.Proofs.YtepbmjchhcmcoaaGreatDoor
open Go Go.Pv
variable (g : Nat → Option (List AV)) (rnd : Bool)

theorem c_ref09x_Decl (a : Dc) (hw : wtD a ≤ 400000000) (hr : a.kind = 1 ∨ a.kind = 2 ∨ (a.kind = 3 ∧ rightE a.body = true)) : Valid Tryz.prog (G0 g rnd) 30 [.agg (encD a)] (.str (declT a)) := by
 have hw2 : a.name.length + 1 + wtFs a.fms + wtFs a.flds + wtGs a.sigs + a.recv.length + wtSs a.vars + wtG a.sig + wtE a.body ≤ 400000000 := hw
 have hl1 := wtFs_len a.fms
 have hl2 := wtFs_len a.flds
 have hl3 := wtGs_len a.sigs
 have hl4 := wtSs_len a.vars
 have hfl := fmsT_wt a.fms
 have hvl := varsT_wt a.vars
 have hsl := sigT_wt a.sig
 have hbl := txtE_wt a.body
 have hn1 := linesF_wt a.flds
 have hn2 := linesG_wt a.sigs
 have hff : (if a.fms.isEmpty then [] else [91] ++ Lib.join (a.fms.map txF) [44, 32] ++ [93] : Str) = fmsT a.fms := rfl
 have hvv : (if a.vars.isEmpty then [] else [91] ++ Lib.join (a.vars.map id) [44, 32] ++ [93] : Str) = varsT a.vars := by rw [List.map_id]; rfl
 have hvt : (varsT a.vars).length ≤ 2 * wtSs a.vars + 2 := by
   unfold varsT
   split
   · simp
   · simp; omega
 have hb1 := bodyLen_d a.flds a.sigs
 have hb2 := bodyLen_one (114 :: 101 :: 116 :: 117 :: 114 :: 110 :: 32 :: txtE a.body)
 simp only [List.length_cons] at hb2
 refine valid_of [] Tryz.func30 rfl (by kernel_rfl) ?_
 refine sr fun Z z => ?_
 simp [row_map, encD, encS, Tryz.f30]
 refine z _ ?_
 clear z Z
 refine AT_seq_k fun K1 hK1 => ?_
 cases hk3 : (a.kind == 3)
 ·
  have hz3 : ¬ a.kind = 3 := by simpa using hk3
  obtain ⟨w9, hw9, hfr⟩ : ∃ w9 : Str, w9.length ≤ 10 ∧ frontT a = wTy ++ a.name ++ fmsT a.fms ++ w9 := by
    rcases hr with h | h | h
    · exact ⟨_, (by decide : ([32, 115, 116, 114, 117, 99, 116] : Str).length ≤ 10), by rw [frontT, if_pos h]⟩
    · exact ⟨_, (by decide : ([32, 105, 110, 116, 101, 114, 102, 97, 99, 101] : Str).length ≤ 10), by rw [frontT, if_neg (by omega), if_pos h]⟩
    · exact absurd h.1 hz3
  have hli : linesT a = (a.flds.map lnF ++ a.sigs.map lnG) := by rw [linesT, if_pos (by omega)]
  refine sr fun Z z => ?_
  simp [row_map, encD, encS, hk3]
  refine z _ ?_
  clear z Z
  refine AT_cond (b := false) (g := none) (by simp [hk3]) (fun hb => ?_) (fun hb => ?_)
  ·
   cases hb
  ·
   clear hb
   refine AT_skip ?_
   simp only [nrm, reduceIte, Nat.reduceEqDiff]
   refine hK1 _ ?_
   refine AT_seq_draw Pt.mixed (by kernel_rfl) fun Z z => ?_
   simp [row_map, encD, encS, hk3]
   repeat refine sg ?_
   refine RVdn_call (c_ref09x_formals g rnd a.fms (by omega)) ?_
   simp [row_map, encD, encS, hk3]
   repeat refine sg ?_
   refine z _ ?_
   clear z Z
   refine AT_seq_k fun K2 hK2 => ?_
   cases hk1 : (a.kind == 1)
   ·
    have hz1 : ¬ a.kind = 1 := by simpa using hk1
    obtain rfl : w9 = [32, 105, 110, 116, 101, 114, 102, 97, 99, 101] := by
      have h9 := hfr
      rw [frontT, if_neg hz1, if_pos (by omega)] at h9
      exact (List.append_cancel_left h9).symm
    refine sr fun Z z => ?_
    simp [row_map, encD, encS, hk3, hk1]
    refine z _ ?_
    clear z Z
    refine AT_cond (b := false) (g := none) (by simp [hk3, hk1]) (fun hb => ?_) (fun hb => ?_)
    ·
     cases hb
    ·
     clear hb
     refine AT_region_q fun Z z => ?_
     simp [row_map, encD, encS, hk3, hk1]
     repeat refine sg ?_
     refine z _ ?_
     clear z Z
     simp only [nrm, reduceIte, Nat.reduceEqDiff]
     refine hK2 _ ?_
     refine AT_seq_k fun K3 hK3 => ?_
     refine sr fun Z z => ?_
     simp [row_map, encD, encS, hk3, hk1]
     refine z _ ?_
     clear z Z
     refine AT_block ?_
     refine AT_loop_q [1,5,6] [1] (fun j s => ∃ k, k ≤ a.flds.length ∧ j = a.flds.length - k ∧ s = { n := 115, tm := [(1, .lp 1 0), (5, .v (.str (frontT a ++ [32, 123, 10] ++ flT ((a.flds.map lnF).map lineT) k)) none), (6, .v (.int .i64 k) none)], bx := [(1, encD a)], tb := [], sh := [], hint := [] }) (a.flds.length) (by first | rfl | simp) ?_ ?_
     ·
      exact ⟨0, by simp [flT_nil, encD, hfr, wTy]⟩
     ·
      rintro j s ⟨k, hk, rfl, rfl⟩ K4 hK4
      refine AT_seq_k fun K5 hK5 => ?_
      refine sr fun Z z => ?_
      simp [row_map, encD, encS, hk3, hk1]
      refine z _ ?_
      clear z Z
      refine AT_cond (g := none) rfl (fun hb74 => ?_) (fun hb74 => ?_)
      ·
       simp [row_map, encD, encS, hk3, hk1] at hb74
       refine AT_skip ?_
       simp only [nrm, reduceIte, Nat.reduceEqDiff]
       refine hK5 _ ?_
       refine AT_seq_k fun K6 hK6 => ?_
       refine AT_block ?_
       refine AT_draw_q Pt.mixed (by kernel_rfl) fun Z z => ?_
       have hk9 : k < a.flds.length := by omega
       have hm9 := wtFs_mem (l := a.flds) (f := a.flds[k]) (by simp)
       have hm8 : wtF a.flds[k] = a.flds[k].name.length + 1 + wt a.flds[k].ty := rfl
       have hx9 := txt_wt a.flds[k].ty
       have hu9 := lines_succF a.flds k hk9
       have hv9 := lines_lenF a.flds k
       have hfl9 : (frontT a).length ≤ a.name.length + (fmsT a.fms).length + 20 := by rw [hfr]; simp [wTy]; omega
       simp [row_map, encD, encS, encF, hk3, hk1, hb74]
       repeat refine sg ?_
       refine RVdn_call ((by have h := c_ref04x_Text g rnd a.flds[k].ty (by omega); simp only [encTy_def] at h; exact h)) ?_
       simp [row_map, encD, encS, encF, hk3, hk1, hb74]
       repeat refine sg ?_
       refine z _ ?_
       clear z Z
       simp only [nrm, reduceIte, Nat.reduceEqDiff]
       refine hK6 _ ?_
       refine AT_region_q fun Z z => ?_
       simp [row_map, encD, encS, hk3, hk1, hb74]
       repeat refine sg ?_
       refine z _ ?_
       clear z Z
       simp only [nrm, reduceIte, Nat.reduceEqDiff]
       refine hK4 _ (by first | rfl | simp) (a.flds.length - (k+1)) (by omega) ?_
       refine ⟨k+1, by omega, by omega, ?_⟩
       simp only [hu9]
       simp [encD]
      ·
       simp [row_map, encD, encS, hk3, hk1] at hb74
       refine AT_exit ?_
       simp only [nrm, reduceIte, Nat.reduceEqDiff]
       refine hK3 _ ?_
       refine AT_seq_k fun K7 hK7 => ?_
       refine sr fun Z z => ?_
       have hk9 : k = a.flds.length := by omega
       subst hk9
       have hfa := lines_allF a.flds
       simp only [List.map_map] at hfa
       rw [hfa]
       simp [row_map, encD, encS, hk3, hk1, hb74]
       refine z _ ?_
       clear z Z
       refine AT_block ?_
       refine AT_loop_q [1,5,7] [1] (fun j s => ∃ m, m ≤ a.sigs.length ∧ j = a.sigs.length - m ∧ s = { n := 115, tm := [(1, .lp 1 0), (5, .v (.str (frontT a ++ [32, 123, 10] ++ ((a.flds.map lnF).map lineT).flatten ++ flT ((a.sigs.map lnG).map lineT) m)) none), (7, .v (.int .i64 m) none)], bx := [(1, encD a)], tb := [], sh := [], hint := [] }) (a.sigs.length) (by first | rfl | simp) ?_ ?_
       ·
        exact ⟨0, by simp [flT_nil, encD]⟩
       ·
        rintro j s ⟨m, hm, rfl, rfl⟩ K8 hK8
        refine AT_seq_k fun K9 hK9 => ?_
        refine sr fun Z z => ?_
        simp [row_map, encD, encS, hk3, hk1, hb74]
        refine z _ ?_
        clear z Z
        refine AT_cond (g := none) rfl (fun hb100 => ?_) (fun hb100 => ?_)
        ·
         simp [row_map, encD, encS, hk3, hk1, hb74] at hb100
         refine AT_skip ?_
         simp only [nrm, reduceIte, Nat.reduceEqDiff]
         refine hK9 _ ?_
         refine AT_seq_k fun K10 hK10 => ?_
         refine AT_block ?_
         refine AT_region_q fun Z z => ?_
         have hm9 : m < a.sigs.length := by omega
         have hg9 := wtGs_mem (l := a.sigs) (f := a.sigs[m]) (by simp)
         have hx9 := sigT_wt a.sigs[m]
         have hu9 := lines_succG a.sigs m hm9
         have hv9 := lines_lenG a.sigs m
         have hv8 := linesF_wt a.flds
         have hfl9 : (frontT a).length ≤ a.name.length + (fmsT a.fms).length + 20 := by rw [hfr]; simp [wTy]; omega
         simp [row_map, encD, encS, encG, hk3, hk1, hb74, hb100]
         repeat refine sg ?_
         refine RVn_call ((by have h := c_ref09x_Sig g rnd a.sigs[m] (by omega); simp only [encG] at h; exact h)) ?_
         simp [row_map, encD, encS, encG, hk3, hk1, hb74, hb100]
         repeat refine sg ?_
         refine z _ ?_
         clear z Z
         refine hK10 _ ?_
         refine AT_region_q fun Z z => ?_
         simp [row_map, encD, encS, hk3, hk1, hb74, hb100]
         repeat refine sg ?_
         refine z _ ?_
         clear z Z
         simp only [nrm, reduceIte, Nat.reduceEqDiff]
         refine hK8 _ (by first | rfl | simp) (a.sigs.length - (m+1)) (by omega) ?_
         refine ⟨m+1, by omega, by omega, ?_⟩
         simp only [hu9]
         simp [encD]
        ·
         simp [row_map, encD, encS, hk3, hk1, hb74] at hb100
         refine AT_exit ?_
         simp only [nrm, reduceIte, Nat.reduceEqDiff]
         refine hK7 _ ?_
         refine sr fun Z z => ?_
         have hm9 : m = a.sigs.length := by omega
         subst hm9
         have hga := lines_allG a.sigs
         simp only [List.map_map] at hga
         rw [hga]
         have hfl9 : (frontT a).length ≤ a.name.length + (fmsT a.fms).length + 20 := by rw [hfr]; simp [wTy]; omega
         simp [row_map, encD, encS, hk3, hk1, hb74, hb100]
         repeat refine sg ?_
         refine z _ ?_
         clear z Z
         refine AT_ret ?_
         simp [row_map, encD, encS, Tryz.f30]
         all_goals first | (· simp [declT, blockT, hfr, hli, hft, lineT, wFn, wRet]) | (· simp [declT, blockT, hli]) | skip
   ·
    have hz1 : a.kind = 1 := by simpa using hk1
    obtain rfl : w9 = [32, 115, 116, 114, 117, 99, 116] := by
      have h9 := hfr
      rw [frontT, if_pos hz1] at h9
      exact (List.append_cancel_left h9).symm
    refine sr fun Z z => ?_
    simp [row_map, encD, encS, hk3, hk1]
    refine z _ ?_
    clear z Z
    refine AT_cond (b := true) (g := none) (by simp [hk3, hk1]) (fun hb => ?_) (fun hb => ?_)
    ·
     clear hb
     refine AT_region_q fun Z z => ?_
     simp [row_map, encD, encS, hk3, hk1]
     repeat refine sg ?_
     refine z _ ?_
     clear z Z
     simp only [nrm, reduceIte, Nat.reduceEqDiff]
     refine hK2 _ ?_
     refine AT_seq_k fun K11 hK11 => ?_
     refine sr fun Z z => ?_
     simp [row_map, encD, encS, hk3, hk1]
     refine z _ ?_
     clear z Z
     refine AT_block ?_
     refine AT_loop_q [1,5,6] [1] (fun j s => ∃ k, k ≤ a.flds.length ∧ j = a.flds.length - k ∧ s = { n := 115, tm := [(1, .lp 1 0), (5, .v (.str (frontT a ++ [32, 123, 10] ++ flT ((a.flds.map lnF).map lineT) k)) none), (6, .v (.int .i64 k) none)], bx := [(1, encD a)], tb := [], sh := [], hint := [] }) (a.flds.length) (by first | rfl | simp) ?_ ?_
     ·
      exact ⟨0, by simp [flT_nil, encD, hfr, wTy]⟩
     ·
      rintro j s ⟨k, hk, rfl, rfl⟩ K12 hK12
      refine AT_seq_k fun K13 hK13 => ?_
      refine sr fun Z z => ?_
      simp [row_map, encD, encS, hk3, hk1]
      refine z _ ?_
      clear z Z
      refine AT_cond (g := none) rfl (fun hb74 => ?_) (fun hb74 => ?_)
      ·
       simp [row_map, encD, encS, hk3, hk1] at hb74
       refine AT_skip ?_
       simp only [nrm, reduceIte, Nat.reduceEqDiff]
       refine hK13 _ ?_
       refine AT_seq_k fun K14 hK14 => ?_
       refine AT_block ?_
       refine AT_draw_q Pt.mixed (by kernel_rfl) fun Z z => ?_
       have hk9 : k < a.flds.length := by omega
       have hm9 := wtFs_mem (l := a.flds) (f := a.flds[k]) (by simp)
       have hm8 : wtF a.flds[k] = a.flds[k].name.length + 1 + wt a.flds[k].ty := rfl
       have hx9 := txt_wt a.flds[k].ty
       have hu9 := lines_succF a.flds k hk9
       have hv9 := lines_lenF a.flds k
       have hfl9 : (frontT a).length ≤ a.name.length + (fmsT a.fms).length + 20 := by rw [hfr]; simp [wTy]; omega
       simp [row_map, encD, encS, encF, hk3, hk1, hb74]
       repeat refine sg ?_
       refine RVdn_call ((by have h := c_ref04x_Text g rnd a.flds[k].ty (by omega); simp only [encTy_def] at h; exact h)) ?_
       simp [row_map, encD, encS, encF, hk3, hk1, hb74]
       repeat refine sg ?_
       refine z _ ?_
       clear z Z
       simp only [nrm, reduceIte, Nat.reduceEqDiff]
       refine hK14 _ ?_
       refine AT_region_q fun Z z => ?_
       simp [row_map, encD, encS, hk3, hk1, hb74]
       repeat refine sg ?_
       refine z _ ?_
       clear z Z
       simp only [nrm, reduceIte, Nat.reduceEqDiff]
       refine hK12 _ (by first | rfl | simp) (a.flds.length - (k+1)) (by omega) ?_
       refine ⟨k+1, by omega, by omega, ?_⟩
       simp only [hu9]
       simp [encD]
      ·
       simp [row_map, encD, encS, hk3, hk1] at hb74
       refine AT_exit ?_
       simp only [nrm, reduceIte, Nat.reduceEqDiff]
       refine hK11 _ ?_
       refine AT_seq_k fun K15 hK15 => ?_
       refine sr fun Z z => ?_
       have hk9 : k = a.flds.length := by omega
       subst hk9
       have hfa := lines_allF a.flds
       simp only [List.map_map] at hfa
       rw [hfa]
       simp [row_map, encD, encS, hk3, hk1, hb74]
       refine z _ ?_
       clear z Z
       refine AT_block ?_
       refine AT_loop_q [1,5,7] [1] (fun j s => ∃ m, m ≤ a.sigs.length ∧ j = a.sigs.length - m ∧ s = { n := 115, tm := [(1, .lp 1 0), (5, .v (.str (frontT a ++ [32, 123, 10] ++ ((a.flds.map lnF).map lineT).flatten ++ flT ((a.sigs.map lnG).map lineT) m)) none), (7, .v (.int .i64 m) none)], bx := [(1, encD a)], tb := [], sh := [], hint := [] }) (a.sigs.length) (by first | rfl | simp) ?_ ?_
       ·
        exact ⟨0, by simp [flT_nil, encD]⟩
       ·
        rintro j s ⟨m, hm, rfl, rfl⟩ K16 hK16
        refine AT_seq_k fun K17 hK17 => ?_
        refine sr fun Z z => ?_
        simp [row_map, encD, encS, hk3, hk1, hb74]
        refine z _ ?_
        clear z Z
        refine AT_cond (g := none) rfl (fun hb100 => ?_) (fun hb100 => ?_)
        ·
         simp [row_map, encD, encS, hk3, hk1, hb74] at hb100
         refine AT_skip ?_
         simp only [nrm, reduceIte, Nat.reduceEqDiff]
         refine hK17 _ ?_
         refine AT_seq_k fun K18 hK18 => ?_
         refine AT_block ?_
         refine AT_region_q fun Z z => ?_
         have hm9 : m < a.sigs.length := by omega
         have hg9 := wtGs_mem (l := a.sigs) (f := a.sigs[m]) (by simp)
         have hx9 := sigT_wt a.sigs[m]
         have hu9 := lines_succG a.sigs m hm9
         have hv9 := lines_lenG a.sigs m
         have hv8 := linesF_wt a.flds
         have hfl9 : (frontT a).length ≤ a.name.length + (fmsT a.fms).length + 20 := by rw [hfr]; simp [wTy]; omega
         simp [row_map, encD, encS, encG, hk3, hk1, hb74, hb100]
         repeat refine sg ?_
         refine RVn_call ((by have h := c_ref09x_Sig g rnd a.sigs[m] (by omega); simp only [encG] at h; exact h)) ?_
         simp [row_map, encD, encS, encG, hk3, hk1, hb74, hb100]
         repeat refine sg ?_
         refine z _ ?_
         clear z Z
         refine hK18 _ ?_
         refine AT_region_q fun Z z => ?_
         simp [row_map, encD, encS, hk3, hk1, hb74, hb100]
         repeat refine sg ?_
         refine z _ ?_
         clear z Z
         simp only [nrm, reduceIte, Nat.reduceEqDiff]
         refine hK16 _ (by first | rfl | simp) (a.sigs.length - (m+1)) (by omega) ?_
         refine ⟨m+1, by omega, by omega, ?_⟩
         simp only [hu9]
         simp [encD]
        ·
         simp [row_map, encD, encS, hk3, hk1, hb74] at hb100
         refine AT_exit ?_
         simp only [nrm, reduceIte, Nat.reduceEqDiff]
         refine hK15 _ ?_
         refine sr fun Z z => ?_
         have hm9 : m = a.sigs.length := by omega
         subst hm9
         have hga := lines_allG a.sigs
         simp only [List.map_map] at hga
         rw [hga]
         have hfl9 : (frontT a).length ≤ a.name.length + (fmsT a.fms).length + 20 := by rw [hfr]; simp [wTy]; omega
         simp [row_map, encD, encS, hk3, hk1, hb74, hb100]
         repeat refine sg ?_
         refine z _ ?_
         clear z Z
         refine AT_ret ?_
         simp [row_map, encD, encS, Tryz.f30]
         all_goals first | (· simp [declT, blockT, hfr, hli, hft, lineT, wFn, wRet]) | (· simp [declT, blockT, hli]) | skip
    ·
     cases hb
 ·
  have hz3 : a.kind = 3 := by simpa using hk3
  have hrb : rightE a.body = true := by
    rcases hr with h | h | h
    · omega
    · omega
    · exact h.2
  have hfr : frontT a = wFn ++ a.recv ++ [32] ++ a.name ++ varsT a.vars ++ [41, 32] ++ sigT a.sig := by rw [frontT, if_neg (by omega), if_neg (by omega)]
  have hli : linesT a = [wRet ++ txtE a.body] := by rw [linesT, if_neg (by omega)]
  refine sr fun Z z => ?_
  simp [row_map, encD, encS, hk3]
  refine z _ ?_
  clear z Z
  refine AT_cond (b := true) (g := none) (by simp [hk3]) (fun hb => ?_) (fun hb => ?_)
  ·
   clear hb
   refine sr fun Z z => ?_
   simp [row_map, encD, encS, hk3]
   repeat refine sg ?_
   refine z _ ?_
   clear z Z
   refine AT_seq_k fun K19 hK19 => ?_
   refine sr fun Z z => ?_
   simp [row_map, encD, encS, hk3]
   refine z _ ?_
   clear z Z
   refine AT_block ?_
   refine AT_loop_q [1,3,4] [1] (fun j s => ∃ k, k ≤ a.vars.length ∧ j = a.vars.length - k ∧ s = { n := 115, tm := [(1, .lp 1 0), (3, .v (.str ((wFn ++ a.recv ++ [32] ++ a.name) ++ bK a.vars k)) none), (4, .v (.int .i64 k) none)], bx := [(1, encD a)], tb := [], sh := [], hint := [] }) (a.vars.length) (by first | rfl | simp) ?_ ?_
   ·
    exact ⟨0, by simp [bK_zero, encD, wFn]⟩
   ·
    rintro j s ⟨k, hk, rfl, rfl⟩ K20 hK20
    refine AT_seq_k fun K21 hK21 => ?_
    refine sr fun Z z => ?_
    simp [row_map, encD, encS, hk3]
    refine z _ ?_
    clear z Z
    refine AT_cond (g := none) rfl (fun hb22 => ?_) (fun hb22 => ?_)
    ·
     simp [row_map, encD, encS, hk3] at hb22
     refine AT_skip ?_
     simp only [nrm, reduceIte, Nat.reduceEqDiff]
     refine hK21 _ ?_
     refine AT_seq_k fun K22 hK22 => ?_
     refine AT_block ?_
     refine AT_seq_k fun K23 hK23 => ?_
     have hk9 : k < a.vars.length := by omega
     have hm9 := wtSs_mem (l := a.vars) (f := a.vars[k]) (by simp)
     have hj9 := jK_V a.vars k
     have hq9 := bK_len a.vars k
     by_cases hk0 : k = 0
     ·
      have hk0b : ((k : Int) == 0) = true := by rw [beq_iff_eq]; omega
      have hb9 := bK_at0 a.vars k hk9 hk0
      have hbk0 : bK a.vars k = [] := by rw [bK, if_pos hk0]
      refine sr fun Z z => ?_
      simp [row_map, encD, encS, wFn, hk3, hb22, hk0b]
      refine z _ ?_
      clear z Z
      refine AT_cond (b := true) (g := none) (by simp [hk3, hb22, hk0b]) (fun hb => ?_) (fun hb => ?_)
      ·
       clear hb
       refine AT_region_q fun Z z => ?_
       simp [row_map, encD, encS, hk3, hb22, hk0b]
       repeat refine sg ?_
       refine z _ ?_
       clear z Z
       simp only [nrm, reduceIte, Nat.reduceEqDiff]
       refine hK23 _ ?_
       refine AT_region_q fun Z z => ?_
       simp [row_map, encD, encS, hk3, hb22, hk0b]
       repeat refine sg ?_
       refine z _ ?_
       clear z Z
       refine hK22 _ ?_
       refine AT_region_q fun Z z => ?_
       simp [row_map, encD, encS, hk3, hb22, hk0b]
       repeat refine sg ?_
       refine z _ ?_
       clear z Z
       simp only [nrm, reduceIte, Nat.reduceEqDiff]
       refine hK20 _ (by first | rfl | simp) (a.vars.length - (k+1)) (by omega) ?_
       refine ⟨k+1, by omega, by omega, ?_⟩
       simp [hb9, encD, wFn, hbk0]
      ·
       cases hb
     ·
      have hk0b : ((k : Int) == 0) = false := by rw [beq_eq_false_iff_ne]; omega
      have hb9 := bK_succ a.vars k hk9 hk0
      have hbk0 : a.vars[k] = a.vars[k] := rfl
      refine sr fun Z z => ?_
      simp [row_map, encD, encS, wFn, hk3, hb22, hk0b]
      refine z _ ?_
      clear z Z
      refine AT_cond (b := false) (g := none) (by simp [hk3, hb22, hk0b]) (fun hb => ?_) (fun hb => ?_)
      ·
       cases hb
      ·
       clear hb
       refine AT_region_q fun Z z => ?_
       simp [row_map, encD, encS, hk3, hb22, hk0b]
       repeat refine sg ?_
       refine z _ ?_
       clear z Z
       simp only [nrm, reduceIte, Nat.reduceEqDiff]
       refine hK23 _ ?_
       refine AT_region_q fun Z z => ?_
       simp [row_map, encD, encS, hk3, hb22, hk0b]
       repeat refine sg ?_
       refine z _ ?_
       clear z Z
       refine hK22 _ ?_
       refine AT_region_q fun Z z => ?_
       simp [row_map, encD, encS, hk3, hb22, hk0b]
       repeat refine sg ?_
       refine z _ ?_
       clear z Z
       simp only [nrm, reduceIte, Nat.reduceEqDiff]
       refine hK20 _ (by first | rfl | simp) (a.vars.length - (k+1)) (by omega) ?_
       refine ⟨k+1, by omega, by omega, ?_⟩
       simp [hb9, encD, wFn, hbk0]
    ·
     simp [row_map, encD, encS, hk3] at hb22
     refine AT_exit ?_
     simp only [nrm, reduceIte, Nat.reduceEqDiff]
     refine hK19 _ ?_
     refine AT_seq_k fun K24 hK24 => ?_
     have hk9 : k = a.vars.length := by omega
     subst hk9
     have hj9 := jK_V a.vars a.vars.length
     have hq9 := bK_len a.vars a.vars.length
     cases he : a.vars.isEmpty
     ·
      have hkc : (0 < a.vars.length) = True := eq_true (by have := ne_of_isEmpty he; exact List.length_pos_iff.2 this)
      have hft : varsT a.vars = bK a.vars a.vars.length ++ [93] := by rw [varsT_bK, if_neg (by rw [he]; exact Bool.false_ne_true)]
      refine sr fun Z z => ?_
      simp [row_map, encD, encS, hk3, hb22, hkc]
      refine z _ ?_
      clear z Z
      refine AT_cond (b := true) (g := none) (by simp [hk3, hb22, hkc]) (fun hb => ?_) (fun hb => ?_)
      ·
       clear hb
       refine AT_region_q fun Z z => ?_
       simp [row_map, encD, encS, wFn, hk3, hb22, hkc]
       repeat refine sg ?_
       refine z _ ?_
       clear z Z
       simp only [nrm, reduceIte, Nat.reduceEqDiff]
       refine hK24 _ ?_
       refine AT_seq_draw Pt.mixed (by kernel_rfl) fun Z z => ?_
       simp [row_map, encD, encS, wFn, hk3, hb22, hkc]
       repeat refine sg ?_
       refine RVdn_call ((by have h := c_ref09x_Sig g rnd a.sig (by omega); simp only [encG] at h; exact h)) ?_
       simp [row_map, encD, encS, wFn, hk3, hb22, hkc]
       repeat refine sg ?_
       refine RVdn_call ((by have h := c_ref05x_Text g rnd a.body hrb (by omega); simp only [encE_def] at h; exact h)) ?_
       simp [row_map, encD, encS, wFn, hk3, hb22, hkc]
       repeat refine sg ?_
       refine z _ ?_
       clear z Z
       refine AT_ret ?_
       simp [row_map, encD, encS, Tryz.f30]
       all_goals first | (· simp [declT, blockT, hfr, hli, hft, lineT, wFn, wRet]) | (· simp [declT, blockT, hli]) | skip
      ·
       cases hb
     ·
      have hl0 := List.isEmpty_iff.1 he
      have hkc : (0 < a.vars.length) = False := eq_false (by rw [hl0]; decide)
      have hft : varsT a.vars = bK a.vars a.vars.length := by rw [hl0]; rfl
      refine sr fun Z z => ?_
      simp [row_map, encD, encS, hk3, hb22, hkc]
      refine z _ ?_
      clear z Z
      refine AT_cond (b := false) (g := none) (by simp [hk3, hb22, hkc]) (fun hb => ?_) (fun hb => ?_)
      ·
       cases hb
      ·
       clear hb
       refine AT_skip ?_
       simp only [nrm, reduceIte, Nat.reduceEqDiff]
       refine hK24 _ ?_
       refine AT_seq_draw Pt.mixed (by kernel_rfl) fun Z z => ?_
       simp [row_map, encD, encS, wFn, hk3, hb22, hkc]
       repeat refine sg ?_
       refine RVdn_call ((by have h := c_ref09x_Sig g rnd a.sig (by omega); simp only [encG] at h; exact h)) ?_
       simp [row_map, encD, encS, wFn, hk3, hb22, hkc]
       repeat refine sg ?_
       refine RVdn_call ((by have h := c_ref05x_Text g rnd a.body hrb (by omega); simp only [encE_def] at h; exact h)) ?_
       simp [row_map, encD, encS, wFn, hk3, hb22, hkc]
       repeat refine sg ?_
       refine z _ ?_
       clear z Z
       refine AT_ret ?_
       simp [row_map, encD, encS, Tryz.f30]
       all_goals first | (· simp [declT, blockT, hfr, hli, hft, lineT, wFn, wRet]) | (· simp [declT, blockT, hli]) | skip
  ·
   cases hb

theorem c_ref09x_Program (p : Pg) (hw : wtPg p ≤ 400000000) (hrm : rightE p.main = true) (hrd : ∀ d ∈ p.decls, d.kind = 1 ∨ d.kind = 2 ∨ (d.kind = 3 ∧ rightE d.body = true)) : Valid Tryz.prog (G0 g rnd) 12 [.agg (encPg p)] (.str (progT p)) := by
 have hw2 : wtDs p.decls + wtE p.main ≤ 400000000 := hw
 have hlD := wtDs_len p.decls
 have hel := txtE_wt p.main
 refine valid_of [] Tryz.func12 rfl (by kernel_rfl) ?_
 refine sr fun Z z => ?_
 simp [row_map, encPg, Tryz.f12]
 refine z _ ?_
 clear z Z
 refine sr fun Z z => ?_
 simp [row_map, encPg]
 refine z _ ?_
 clear z Z
 refine AT_seq_k fun K1 hK1 => ?_
 refine sr fun Z z => ?_
 simp [row_map, encPg]
 refine z _ ?_
 clear z Z
 refine AT_block ?_
 refine AT_loop_q [1,3,4] [1] (fun j s => ∃ k, k ≤ p.decls.length ∧ j = p.decls.length - k ∧ s = { n := 27, tm := [(1, .lp 1 0), (3, .v (.str (wHead ++ flT (p.decls.map declT) k)) none), (4, .v (.int .i64 k) none)], bx := [(1, encPg p)], tb := [], sh := [], hint := [] }) (p.decls.length) (by first | rfl | simp) ?_ ?_
 exact ⟨0, by simp [flT_nil, encPg, wHead]⟩
 rintro j s ⟨k, hk, rfl, rfl⟩ K2 hK2
 refine AT_seq_k fun K3 hK3 => ?_
 refine sr fun Z z => ?_
 simp [row_map, encPg]
 refine z _ ?_
 clear z Z
 refine AT_cond (g := none) rfl (fun hb9 => ?_) (fun hb9 => ?_)
 simp [row_map, encPg] at hb9
 refine AT_skip ?_
 simp only [nrm, reduceIte, Nat.reduceEqDiff]
 refine hK3 _ ?_
 refine AT_seq_k fun K4 hK4 => ?_
 refine AT_block ?_
 refine AT_region_q fun Z z => ?_
 have hk9 : k < p.decls.length := by omega
 have hm9 := wtDs_mem (l := p.decls) (f := p.decls[k]) (by simp)
 have hx9 := declT_wt p.decls[k]
 have hu9 := decls_succ p.decls k hk9
 have hv9 := decls_len p.decls k
 simp [row_map, encPg, wHead, hb9]
 refine RVn_call (c_ref09x_Decl g rnd p.decls[k] (by omega) (hrd _ (by simp))) ?_
 simp [row_map, encPg, wHead, hb9]
 repeat refine sg ?_
 refine z _ ?_
 clear z Z
 refine hK4 _ ?_
 refine AT_region_q fun Z z => ?_
 simp [row_map, encPg, hb9]
 repeat refine sg ?_
 refine z _ ?_
 clear z Z
 simp only [nrm, reduceIte, Nat.reduceEqDiff]
 refine hK2 _ (by first | rfl | simp) (p.decls.length - (k+1)) (by omega) ?_
 refine ⟨k+1, by omega, by omega, ?_⟩
 simp only [hu9]
 simp [encPg, wHead]
 simp [row_map, encPg] at hb9
 refine AT_exit ?_
 simp only [nrm, reduceIte, Nat.reduceEqDiff]
 refine hK1 _ ?_
 refine sr fun Z z => ?_
 have hk9 : k = p.decls.length := by omega
 subst hk9
 have hv9 := decls_len p.decls p.decls.length
 have hda := decls_all p.decls
 rw [hda] at hv9 ⊢
 simp [row_map, encPg, wHead, hb9]
 repeat refine sg ?_
 refine RVn_call ((by have h := c_ref05x_Text g rnd p.main hrm (by omega); simp only [encE_def] at h; exact h)) ?_
 simp [row_map, encPg, wHead, hb9]
 repeat refine sg ?_
 refine z _ ?_
 clear z Z
 refine AT_ret ?_
 simp [row_map, encPg, Tryz.f12]
 simp [progT, blockT, lineT, wHead, wFm]

end Go.Proofs.YtepbmjchhcmcoaaGreatDoor
end

section
/- Contracts: counting declarations. -/
set_option linter.all false
set_option maxHeartbeats 1000000
set_option maxRecDepth 10000
namespace Go.Proofs.YtepbmjchhcmcoaaGreatDoor
open Go Go.Pv
variable (g : Nat → Option (List AV)) (rnd : Bool)

theorem c_ref06x_countFormals (l : List Fm) (hf : fitFs l) (n : Nat) (hn : n ≤ 100000000000000) : Valid Tryz.prog (G0 g rnd) 46 [.slice (l.map encF), .int .i64 n] (.int .i64 (cntFs l n)) := by
 obtain ⟨hf1, hf2⟩ := hf
 refine valid_of [] Tryz.func46 rfl (by kernel_rfl) ?_
 refine sr fun Z z => ?_
 simp [row_map, tdiv50, encF, Tryz.f46]
 refine z _ ?_
 clear z Z
 refine AT_seq_k fun K1 hK1 => ?_
 refine sr fun Z z => ?_
 simp [row_map, tdiv50, encF]
 refine z _ ?_
 clear z Z
 refine AT_block ?_
 refine AT_loop_q [0,1,5] [] (fun j s => ∃ k c, k ≤ l.length ∧ cntFs l n = cntFs (l.drop k) c ∧ j = l.length - k ∧ s = { n := 33, tm := [(0, .v (.slice (l.map encF)) none), (1, .v (.int .i64 (c : Nat)) none), (5, .v (.int .i64 k) none)], bx := [], tb := [], sh := [], hint := [] }) (l.length) (by first | rfl | simp) ?_ ?_
 exact ⟨0, n, by simp⟩
 rintro j s ⟨k, c, hk, hc, rfl, rfl⟩ K2 hK2
 refine AT_seq_k fun K3 hK3 => ?_
 by_cases hkt : k < l.length
 refine sr fun Z z => ?_
 simp [row_map, tdiv50, encF, hkt]
 refine z _ ?_
 clear z Z
 refine AT_cond (g := none) rfl (fun hb13 => ?_) (fun hb13 => ?_)
 simp [row_map, tdiv50, encF, hkt] at hb13
 refine AT_skip ?_
 simp only [nrm, reduceIte, Nat.reduceEqDiff]
 refine hK3 _ ?_
 refine AT_seq_k fun K4 hK4 => ?_
 refine AT_block ?_
 refine AT_draw_q Pt.mixed (by kernel_rfl) fun Z z => ?_
 have hfk := hf2 l[k] (by simp)
 have hfn := hfk.1
 simp [row_map, tdiv50, encF, hkt]
 repeat refine sg ?_
 refine RVdn_call ((by have h := c_ref04x_Count g rnd l[k].ty hfk.2 (c + 1 + l[k].name.length / 50) (by omega); simp only [encTy_def] at h; exact h)) ?_
 simp [row_map, tdiv50, encF, hkt]
 refine z _ ?_
 clear z Z
 simp only [nrm, reduceIte, Nat.reduceEqDiff]
 refine hK4 _ ?_
 refine AT_region_q fun Z z => ?_
 simp [row_map, tdiv50, encF, hkt]
 repeat refine sg ?_
 refine z _ ?_
 clear z Z
 simp only [nrm, reduceIte, Nat.reduceEqDiff]
 refine hK2 _ (by first | rfl | simp) (l.length - (k+1)) (by omega) ?_
 refine ⟨k+1, cnt l[k].ty (c + 1 + l[k].name.length / 50), by omega, ?_, by omega, by simp⟩
 rw [hc, List.drop_eq_getElem_cons hkt, cntFs_cons, if_pos (by omega)]
 simp [row_map, tdiv50, encF, hkt] at hb13
 refine AT_exit ?_
 simp only [nrm, reduceIte, Nat.reduceEqDiff]
 refine hK1 _ ?_
 refine sr fun Z z => ?_
 simp [row_map, tdiv50, encF, hkt]
 refine z _ ?_
 clear z Z
 refine AT_ret ?_
 simp [row_map, tdiv50, encF, Tryz.f46]
 (rw [hc, List.drop_eq_getElem_cons hkt, cntFs_cons, if_neg (by omega)])
 refine sr fun Z z => ?_
 simp [row_map, tdiv50, encF, hkt]
 refine z _ ?_
 clear z Z
 refine AT_cond (b := false) (g := none) (by simp [hkt]) (fun hb => ?_) (fun hb => ?_)
 cases hb
 clear hb
 refine AT_exit ?_
 simp only [nrm, reduceIte, Nat.reduceEqDiff]
 refine hK1 _ ?_
 refine sr fun Z z => ?_
 simp [row_map, tdiv50, encF, hkt]
 refine z _ ?_
 clear z Z
 refine AT_ret ?_
 simp [row_map, tdiv50, encF, Tryz.f46]
 (rw [hc, List.drop_eq_nil_of_le (by omega)]; rfl)

theorem c_ref06x_countParams (l : List Fm) (hf : fitFs l) (n : Nat) (hn : n ≤ 100000000000000) : Valid Tryz.prog (G0 g rnd) 45 [.slice (l.map encF), .int .i64 n] (.int .i64 (cntFs l n)) := by
 obtain ⟨hf1, hf2⟩ := hf
 refine valid_of [] Tryz.func45 rfl (by kernel_rfl) ?_
 refine sr fun Z z => ?_
 simp [row_map, tdiv50, encF, Tryz.f45]
 refine z _ ?_
 clear z Z
 refine AT_seq_k fun K1 hK1 => ?_
 refine sr fun Z z => ?_
 simp [row_map, tdiv50, encF]
 refine z _ ?_
 clear z Z
 refine AT_block ?_
 refine AT_loop_q [0,1,5] [] (fun j s => ∃ k c, k ≤ l.length ∧ cntFs l n = cntFs (l.drop k) c ∧ j = l.length - k ∧ s = { n := 33, tm := [(0, .v (.slice (l.map encF)) none), (1, .v (.int .i64 (c : Nat)) none), (5, .v (.int .i64 k) none)], bx := [], tb := [], sh := [], hint := [] }) (l.length) (by first | rfl | simp) ?_ ?_
 exact ⟨0, n, by simp⟩
 rintro j s ⟨k, c, hk, hc, rfl, rfl⟩ K2 hK2
 refine AT_seq_k fun K3 hK3 => ?_
 by_cases hkt : k < l.length
 refine sr fun Z z => ?_
 simp [row_map, tdiv50, encF, hkt]
 refine z _ ?_
 clear z Z
 refine AT_cond (g := none) rfl (fun hb13 => ?_) (fun hb13 => ?_)
 simp [row_map, tdiv50, encF, hkt] at hb13
 refine AT_skip ?_
 simp only [nrm, reduceIte, Nat.reduceEqDiff]
 refine hK3 _ ?_
 refine AT_seq_k fun K4 hK4 => ?_
 refine AT_block ?_
 refine AT_draw_q Pt.mixed (by kernel_rfl) fun Z z => ?_
 have hfk := hf2 l[k] (by simp)
 have hfn := hfk.1
 simp [row_map, tdiv50, encF, hkt]
 repeat refine sg ?_
 refine RVdn_call ((by have h := c_ref04x_Count g rnd l[k].ty hfk.2 (c + 1 + l[k].name.length / 50) (by omega); simp only [encTy_def] at h; exact h)) ?_
 simp [row_map, tdiv50, encF, hkt]
 refine z _ ?_
 clear z Z
 simp only [nrm, reduceIte, Nat.reduceEqDiff]
 refine hK4 _ ?_
 refine AT_region_q fun Z z => ?_
 simp [row_map, tdiv50, encF, hkt]
 repeat refine sg ?_
 refine z _ ?_
 clear z Z
 simp only [nrm, reduceIte, Nat.reduceEqDiff]
 refine hK2 _ (by first | rfl | simp) (l.length - (k+1)) (by omega) ?_
 refine ⟨k+1, cnt l[k].ty (c + 1 + l[k].name.length / 50), by omega, ?_, by omega, by simp⟩
 rw [hc, List.drop_eq_getElem_cons hkt, cntFs_cons, if_pos (by omega)]
 simp [row_map, tdiv50, encF, hkt] at hb13
 refine AT_exit ?_
 simp only [nrm, reduceIte, Nat.reduceEqDiff]
 refine hK1 _ ?_
 refine sr fun Z z => ?_
 simp [row_map, tdiv50, encF, hkt]
 refine z _ ?_
 clear z Z
 refine AT_ret ?_
 simp [row_map, tdiv50, encF, Tryz.f45]
 (rw [hc, List.drop_eq_getElem_cons hkt, cntFs_cons, if_neg (by omega)])
 refine sr fun Z z => ?_
 simp [row_map, tdiv50, encF, hkt]
 refine z _ ?_
 clear z Z
 refine AT_cond (b := false) (g := none) (by simp [hkt]) (fun hb => ?_) (fun hb => ?_)
 cases hb
 clear hb
 refine AT_exit ?_
 simp only [nrm, reduceIte, Nat.reduceEqDiff]
 refine hK1 _ ?_
 refine sr fun Z z => ?_
 simp [row_map, tdiv50, encF, hkt]
 refine z _ ?_
 clear z Z
 refine AT_ret ?_
 simp [row_map, tdiv50, encF, Tryz.f45]
 (rw [hc, List.drop_eq_nil_of_le (by omega)]; rfl)

theorem c_ref06x_countSig (s : Sg) (hf : fitG s) (n : Nat) (hn : n ≤ 10000000000000) : Valid Tryz.prog (G0 g rnd) 47 [.agg (encG s), .int .i64 n] (.int .i64 (cntG s n)) := by
 obtain ⟨hf1, hf2, hf3, hf4⟩ := hf
 have e1 := cntFs_ub hf2.2 (n + s.name.length / 50)
 have e2 := cntFs_ub hf3.2 (cntFs s.fms (n + s.name.length / 50))
 refine valid_of [] Tryz.func47 rfl (by kernel_rfl) ?_
 refine sr fun Z z => ?_
 simp [tdiv50, encG, Tryz.f47]
 refine z _ ?_
 clear z Z
 refine AT_seq_draw Pt.mixed (by kernel_rfl) fun Z z => ?_
 simp [tdiv50, encG]
 repeat refine sg ?_
 refine RVdn_call (c_ref06x_countFormals g rnd s.fms hf2 (n + s.name.length / 50) (by omega)) ?_
 simp [tdiv50, encG]
 refine RVdn_call (c_ref06x_countParams g rnd s.pms hf3 (cntFs s.fms (n + s.name.length / 50)) (by omega)) ?_
 simp [tdiv50, encG]
 refine RVdn_call ((by have h := c_ref04x_Count g rnd s.res hf4 (cntFs s.pms (cntFs s.fms (n + s.name.length / 50))) (by omega); simp only [encTy_def] at h; exact h)) ?_
 simp [tdiv50, encG]
 refine z _ ?_
 clear z Z
 refine AT_ret ?_
 simp [tdiv50, encG, Tryz.f47]
 rw [cntG]

theorem c_ref06x_Count (p : Pg) (hf : fitPg p) : Valid Tryz.prog (G0 g rnd) 18 [.agg (encPg p)] (.int .i64 (cntPg p)) := by
 obtain ⟨⟨hf1, hf2⟩, hf3⟩ := hf
 refine valid_of [] Tryz.func18 rfl (by kernel_rfl) ?_
 refine sr fun Z z => ?_
 simp [row_map, tdiv50, encPg, Tryz.f18]
 refine z _ ?_
 clear z Z
 refine sr fun Z z => ?_
 simp [row_map, tdiv50, encPg]
 refine RVn_call ((by have h := c_ref05x_Count g rnd p.main hf3 0 (by omega); simp only [encE_def] at h; exact h)) ?_
 simp [row_map, tdiv50, encPg]
 refine z _ ?_
 clear z Z
 refine AT_seq_k fun K1 hK1 => ?_
 refine sr fun Z z => ?_
 simp [row_map, tdiv50, encPg]
 refine z _ ?_
 clear z Z
 refine AT_block ?_
 refine AT_loop_q [1,3,4] [1] (fun j s => ∃ k c, k ≤ p.decls.length ∧ cntPg p = cntDs (p.decls.drop k) c ∧ j = p.decls.length - k ∧ s = { n := 94, tm := [(1, .lp 1 0), (3, .v (.int .i64 (c : Nat)) none), (4, .v (.int .i64 k) none)], bx := [(1, encPg p)], tb := [], sh := [], hint := [] }) (p.decls.length) (by first | rfl | simp) ?_ ?_
 exact ⟨0, cntE p.main 0, by simp [encPg, cntPg]⟩
 rintro j s ⟨k, c, hk, hc, rfl, rfl⟩ K2 hK2
 refine AT_seq_k fun K3 hK3 => ?_
 by_cases hkt : k < p.decls.length
 refine sr fun Z z => ?_
 simp [row_map, tdiv50, encPg, hkt]
 refine z _ ?_
 clear z Z
 refine AT_cond (g := none) rfl (fun hb19 => ?_) (fun hb19 => ?_)
 simp [row_map, tdiv50, encPg, hkt] at hb19
 refine AT_skip ?_
 simp only [nrm, reduceIte, Nat.reduceEqDiff]
 refine hK3 _ ?_
 refine AT_seq_k fun K4 hK4 => ?_
 refine AT_block ?_
 refine sr fun Z z => ?_
 obtain ⟨q1, ⟨q2a, q2⟩, ⟨q3a, q3⟩, ⟨q4a, q4⟩, q5, ⟨q6a, q6⟩, q7, q8⟩ := hf2 p.decls[k] (by simp)
 have u1 := cntFs_ub q2 (c + 1 + p.decls[k].name.length / 50 + p.decls[k].recv.length / 50)
 have u2 := cntFs_ub q3 (cntFs p.decls[k].fms (c + 1 + p.decls[k].name.length / 50 + p.decls[k].recv.length / 50))
 simp [row_map, tdiv50, encPg, encD, hkt]
 refine z _ ?_
 clear z Z
 refine AT_seq_draw Pt.mixed (by kernel_rfl) fun Z z => ?_
 simp [row_map, tdiv50, encPg, encD, hkt]
 repeat refine sg ?_
 refine RVdn_call (c_ref06x_countFormals g rnd p.decls[k].fms ⟨q2a, q2⟩ (c + 1 + p.decls[k].name.length / 50 + p.decls[k].recv.length / 50) (by omega)) ?_
 simp [row_map, tdiv50, encPg, encD, hkt]
 refine RVdn_call (c_ref06x_countParams g rnd p.decls[k].flds ⟨q3a, q3⟩ (cntFs p.decls[k].fms (c + 1 + p.decls[k].name.length / 50 + p.decls[k].recv.length / 50)) (by omega)) ?_
 simp [row_map, tdiv50, encPg, encD, hkt]
 refine z _ ?_
 clear z Z
 refine AT_seq_k fun K5 hK5 => ?_
 refine sr fun Z z => ?_
 simp [row_map, tdiv50, encPg, hkt]
 refine z _ ?_
 clear z Z
 refine AT_block ?_
 refine AT_loop_q [1,3,4,5,6] [1,5] (fun j s => ∃ m e, m ≤ p.decls[k].sigs.length ∧ cntGs p.decls[k].sigs (cntFs p.decls[k].flds (cntFs p.decls[k].fms (c + 1 + p.decls[k].name.length / 50 + p.decls[k].recv.length / 50))) = cntGs (p.decls[k].sigs.drop m) e ∧ j = p.decls[k].sigs.length - m ∧ s = { n := 94, tm := [(1, .lp 1 0), (3, .v (.int .i64 (e : Nat)) none), (4, .v (.int .i64 k) none), (5, .lp 5 0), (6, .v (.int .i64 m) none)], bx := [(1, encPg p), (5, encD p.decls[k])], tb := [], sh := [], hint := [] }) (p.decls[k].sigs.length) (by first | rfl | simp) ?_ ?_
 exact ⟨0, cntFs p.decls[k].flds (cntFs p.decls[k].fms (c + 1 + p.decls[k].name.length / 50 + p.decls[k].recv.length / 50)), by simp [encD, encPg]⟩
 rintro j s ⟨m, e, hm, he, rfl, rfl⟩ K6 hK6
 refine AT_seq_k fun K7 hK7 => ?_
 by_cases hms : m < p.decls[k].sigs.length
 refine sr fun Z z => ?_
 simp [row_map, tdiv50, encPg, encD, hkt, hms]
 refine z _ ?_
 clear z Z
 refine AT_cond (g := none) rfl (fun hb53 => ?_) (fun hb53 => ?_)
 simp [row_map, tdiv50, encPg, hkt, hms] at hb53
 refine AT_skip ?_
 simp only [nrm, reduceIte, Nat.reduceEqDiff]
 refine hK7 _ ?_
 refine AT_seq_k fun K8 hK8 => ?_
 refine AT_block ?_
 refine AT_region_q fun Z z => ?_
 simp [row_map, tdiv50, encPg, encD, encG, hkt, hms]
 refine RVn_call ((by have h := c_ref06x_countSig g rnd p.decls[k].sigs[m] (q4 _ (by simp)) e (by omega); simp only [encG] at h; exact h)) ?_
 simp [row_map, tdiv50, encPg, encD, encG, hkt, hms]
 refine z _ ?_
 clear z Z
 refine hK8 _ ?_
 refine AT_region_q fun Z z => ?_
 simp [row_map, tdiv50, encPg, hkt, hms]
 repeat refine sg ?_
 refine z _ ?_
 clear z Z
 simp only [nrm, reduceIte, Nat.reduceEqDiff]
 refine hK6 _ (by first | rfl | simp) (p.decls[k].sigs.length - (m+1)) (by omega) ?_
 refine ⟨m+1, cntG p.decls[k].sigs[m] e, by omega, ?_, by omega, by simp [encD, encPg]⟩
 rw [he, List.drop_eq_getElem_cons hms, cntGs_cons, if_pos (by omega)]
 simp [row_map, tdiv50, encPg, hkt, hms] at hb53
 refine AT_exit ?_
 simp only [nrm, reduceIte, Nat.reduceEqDiff]
 refine hK5 _ ?_
 refine AT_seq_k fun K9 hK9 => ?_
 refine sr fun Z z => ?_
 have hG : cntGs p.decls[k].sigs (cntFs p.decls[k].flds (cntFs p.decls[k].fms (c + 1 + p.decls[k].name.length / 50 + p.decls[k].recv.length / 50))) = e := by
   rw [he]
   (rw [List.drop_eq_getElem_cons hms, cntGs_cons, if_neg (by omega)])
 simp [row_map, tdiv50, encPg, hkt, hms]
 refine z _ ?_
 clear z Z
 refine AT_block ?_
 refine AT_loop_q [1,3,4,5,7] [1,5] (fun j s => ∃ i w, i ≤ p.decls[k].vars.length ∧ cntVs p.decls[k].vars (cntGs p.decls[k].sigs (cntFs p.decls[k].flds (cntFs p.decls[k].fms (c + 1 + p.decls[k].name.length / 50 + p.decls[k].recv.length / 50)))) = cntVs (p.decls[k].vars.drop i) w ∧ j = p.decls[k].vars.length - i ∧ s = { n := 94, tm := [(1, .lp 1 0), (3, .v (.int .i64 (w : Nat)) none), (4, .v (.int .i64 k) none), (5, .lp 5 0), (7, .v (.int .i64 i) none)], bx := [(1, encPg p), (5, encD p.decls[k])], tb := [], sh := [], hint := [] }) (p.decls[k].vars.length) (by first | rfl | simp) ?_ ?_
 exact ⟨0, e, by omega, by rw [hG]; rfl, by omega, by simp [encD, encPg]⟩
 rintro j s ⟨i, w, hi, hw, rfl, rfl⟩ K10 hK10
 refine AT_seq_k fun K11 hK11 => ?_
 by_cases hmv : i < p.decls[k].vars.length
 refine sr fun Z z => ?_
 simp [row_map, tdiv50, encPg, encD, hkt, hms, hmv]
 refine z _ ?_
 clear z Z
 refine AT_cond (g := none) rfl (fun hb71 => ?_) (fun hb71 => ?_)
 simp [row_map, tdiv50, encPg, hkt, hms, hmv] at hb71
 refine AT_skip ?_
 simp only [nrm, reduceIte, Nat.reduceEqDiff]
 refine hK11 _ ?_
 refine AT_seq_k fun K12 hK12 => ?_
 refine AT_block ?_
 refine AT_region_q fun Z z => ?_
 have q6k := q6 p.decls[k].vars[i] (by simp)
 simp [row_map, tdiv50, encPg, encD, encS, hkt, hms, hmv]
 repeat refine sg ?_
 refine z _ ?_
 clear z Z
 refine hK12 _ ?_
 refine AT_region_q fun Z z => ?_
 simp [row_map, tdiv50, encPg, hkt, hms, hmv]
 repeat refine sg ?_
 refine z _ ?_
 clear z Z
 simp only [nrm, reduceIte, Nat.reduceEqDiff]
 refine hK10 _ (by first | rfl | simp) (p.decls[k].vars.length - (i+1)) (by omega) ?_
 refine ⟨i+1, w + 1 + p.decls[k].vars[i].length / 50, by omega, ?_, by omega, by simp [encD, encPg]⟩
 rw [hw, List.drop_eq_getElem_cons hmv, cntVs_cons, if_pos (by omega)]
 simp [row_map, tdiv50, encPg, hkt, hms, hmv] at hb71
 refine AT_exit ?_
 simp only [nrm, reduceIte, Nat.reduceEqDiff]
 refine hK9 _ ?_
 refine sr fun Z z => ?_
 have hV : cntVs p.decls[k].vars (cntGs p.decls[k].sigs (cntFs p.decls[k].flds (cntFs p.decls[k].fms (c + 1 + p.decls[k].name.length / 50 + p.decls[k].recv.length / 50)))) = w := by
   rw [hw]
   (rw [List.drop_eq_getElem_cons hmv, cntVs_cons, if_neg (by omega)])
 simp [row_map, tdiv50, encPg, hkt, hms, hmv]
 refine z _ ?_
 clear z Z
 refine AT_cond (g := none) rfl (fun hb85 => ?_) (fun hb85 => ?_)
 simp [row_map, tdiv50, encPg, hkt, hms, hmv] at hb85
 refine AT_draw_q Pt.mixed (by kernel_rfl) fun Z z => ?_
 have u3 := cntG_ub q7 w
 simp [row_map, tdiv50, encPg, encD, hkt, hms, hmv, hb85]
 refine RVdn_call ((by have h := c_ref06x_countSig g rnd p.decls[k].sig q7 w (by omega); simp only [encG] at h; exact h)) ?_
 simp [row_map, tdiv50, encPg, encD, hkt, hms, hmv, hb85]
 refine RVdn_call ((by have h := c_ref05x_Count g rnd p.decls[k].body q8 (cntG p.decls[k].sig w) (by omega); simp only [encE_def] at h; exact h)) ?_
 simp [row_map, tdiv50, encPg, encD, hkt, hms, hmv, hb85]
 refine z _ ?_
 clear z Z
 simp only [nrm, reduceIte, Nat.reduceEqDiff]
 refine hK4 _ ?_
 refine AT_region_q fun Z z => ?_
 simp [row_map, tdiv50, encPg, hkt, hms, hmv, hb85]
 repeat refine sg ?_
 refine z _ ?_
 clear z Z
 simp only [nrm, reduceIte, Nat.reduceEqDiff]
 refine hK2 _ (by first | rfl | simp) (p.decls.length - (k+1)) (by omega) ?_
 (· refine ⟨k+1, cntE p.decls[k].body (cntG p.decls[k].sig w), by omega, ?_, by omega, by simp [encPg]⟩
    rw [hc, List.drop_eq_getElem_cons hkt, cntDs_cons, if_pos (by omega), cntD, hV, if_pos (by omega)])
 simp [row_map, tdiv50, encPg, hkt, hms, hmv] at hb85
 refine AT_skip ?_
 refine hK4 _ ?_
 refine AT_region_q fun Z z => ?_
 simp [row_map, tdiv50, encPg, hkt, hms, hmv, hb85]
 repeat refine sg ?_
 refine z _ ?_
 clear z Z
 simp only [nrm, reduceIte, Nat.reduceEqDiff]
 refine hK2 _ (by first | rfl | simp) (p.decls.length - (k+1)) (by omega) ?_
 (refine ⟨k+1, w, by omega, ?_, by omega, by simp [encPg]⟩
  rw [hc, List.drop_eq_getElem_cons hkt, cntDs_cons, if_pos (by omega), cntD, hV, if_neg (by omega)])
 refine sr fun Z z => ?_
 simp [row_map, tdiv50, encPg, encD, hkt, hms, hmv]
 refine z _ ?_
 clear z Z
 refine AT_cond (b := false) (g := none) (by simp [hkt, hms, hmv]) (fun hb => ?_) (fun hb => ?_)
 cases hb
 clear hb
 refine AT_exit ?_
 simp only [nrm, reduceIte, Nat.reduceEqDiff]
 refine hK9 _ ?_
 refine sr fun Z z => ?_
 have hV : cntVs p.decls[k].vars (cntGs p.decls[k].sigs (cntFs p.decls[k].flds (cntFs p.decls[k].fms (c + 1 + p.decls[k].name.length / 50 + p.decls[k].recv.length / 50)))) = w := by
   rw [hw]
   (rw [List.drop_eq_nil_of_le (by omega)]; rfl)
 simp [row_map, tdiv50, encPg, hkt, hms, hmv]
 refine z _ ?_
 clear z Z
 refine AT_cond (g := none) rfl (fun hb85 => ?_) (fun hb85 => ?_)
 simp [row_map, tdiv50, encPg, hkt, hms, hmv] at hb85
 refine AT_draw_q Pt.mixed (by kernel_rfl) fun Z z => ?_
 have u3 := cntG_ub q7 w
 simp [row_map, tdiv50, encPg, encD, hkt, hms, hmv, hb85]
 refine RVdn_call ((by have h := c_ref06x_countSig g rnd p.decls[k].sig q7 w (by omega); simp only [encG] at h; exact h)) ?_
 simp [row_map, tdiv50, encPg, encD, hkt, hms, hmv, hb85]
 refine RVdn_call ((by have h := c_ref05x_Count g rnd p.decls[k].body q8 (cntG p.decls[k].sig w) (by omega); simp only [encE_def] at h; exact h)) ?_
 simp [row_map, tdiv50, encPg, encD, hkt, hms, hmv, hb85]
 refine z _ ?_
 clear z Z
 simp only [nrm, reduceIte, Nat.reduceEqDiff]
 refine hK4 _ ?_
 refine AT_region_q fun Z z => ?_
 simp [row_map, tdiv50, encPg, hkt, hms, hmv, hb85]
 repeat refine sg ?_
 refine z _ ?_
 clear z Z
 simp only [nrm, reduceIte, Nat.reduceEqDiff]
 refine hK2 _ (by first | rfl | simp) (p.decls.length - (k+1)) (by omega) ?_
 (· refine ⟨k+1, cntE p.decls[k].body (cntG p.decls[k].sig w), by omega, ?_, by omega, by simp [encPg]⟩
    rw [hc, List.drop_eq_getElem_cons hkt, cntDs_cons, if_pos (by omega), cntD, hV, if_pos (by omega)])
 simp [row_map, tdiv50, encPg, hkt, hms, hmv] at hb85
 refine AT_skip ?_
 refine hK4 _ ?_
 refine AT_region_q fun Z z => ?_
 simp [row_map, tdiv50, encPg, hkt, hms, hmv, hb85]
 repeat refine sg ?_
 refine z _ ?_
 clear z Z
 simp only [nrm, reduceIte, Nat.reduceEqDiff]
 refine hK2 _ (by first | rfl | simp) (p.decls.length - (k+1)) (by omega) ?_
 (refine ⟨k+1, w, by omega, ?_, by omega, by simp [encPg]⟩
  rw [hc, List.drop_eq_getElem_cons hkt, cntDs_cons, if_pos (by omega), cntD, hV, if_neg (by omega)])
 refine sr fun Z z => ?_
 simp [row_map, tdiv50, encPg, encD, hkt, hms]
 refine z _ ?_
 clear z Z
 refine AT_cond (b := false) (g := none) (by simp [hkt, hms]) (fun hb => ?_) (fun hb => ?_)
 cases hb
 clear hb
 refine AT_exit ?_
 simp only [nrm, reduceIte, Nat.reduceEqDiff]
 refine hK5 _ ?_
 refine AT_seq_k fun K13 hK13 => ?_
 refine sr fun Z z => ?_
 have hG : cntGs p.decls[k].sigs (cntFs p.decls[k].flds (cntFs p.decls[k].fms (c + 1 + p.decls[k].name.length / 50 + p.decls[k].recv.length / 50))) = e := by
   rw [he]
   (rw [List.drop_eq_nil_of_le (by omega)]; rfl)
 simp [row_map, tdiv50, encPg, hkt, hms]
 refine z _ ?_
 clear z Z
 refine AT_block ?_
 refine AT_loop_q [1,3,4,5,7] [1,5] (fun j s => ∃ i w, i ≤ p.decls[k].vars.length ∧ cntVs p.decls[k].vars (cntGs p.decls[k].sigs (cntFs p.decls[k].flds (cntFs p.decls[k].fms (c + 1 + p.decls[k].name.length / 50 + p.decls[k].recv.length / 50)))) = cntVs (p.decls[k].vars.drop i) w ∧ j = p.decls[k].vars.length - i ∧ s = { n := 94, tm := [(1, .lp 1 0), (3, .v (.int .i64 (w : Nat)) none), (4, .v (.int .i64 k) none), (5, .lp 5 0), (7, .v (.int .i64 i) none)], bx := [(1, encPg p), (5, encD p.decls[k])], tb := [], sh := [], hint := [] }) (p.decls[k].vars.length) (by first | rfl | simp) ?_ ?_
 exact ⟨0, e, by omega, by rw [hG]; rfl, by omega, by simp [encD, encPg]⟩
 rintro j s ⟨i, w, hi, hw, rfl, rfl⟩ K14 hK14
 refine AT_seq_k fun K15 hK15 => ?_
 by_cases hmv : i < p.decls[k].vars.length
 refine sr fun Z z => ?_
 simp [row_map, tdiv50, encPg, encD, hkt, hms, hmv]
 refine z _ ?_
 clear z Z
 refine AT_cond (g := none) rfl (fun hb71 => ?_) (fun hb71 => ?_)
 simp [row_map, tdiv50, encPg, hkt, hms, hmv] at hb71
 refine AT_skip ?_
 simp only [nrm, reduceIte, Nat.reduceEqDiff]
 refine hK15 _ ?_
 refine AT_seq_k fun K16 hK16 => ?_
 refine AT_block ?_
 refine AT_region_q fun Z z => ?_
 have q6k := q6 p.decls[k].vars[i] (by simp)
 simp [row_map, tdiv50, encPg, encD, encS, hkt, hms, hmv]
 repeat refine sg ?_
 refine z _ ?_
 clear z Z
 refine hK16 _ ?_
 refine AT_region_q fun Z z => ?_
 simp [row_map, tdiv50, encPg, hkt, hms, hmv]
 repeat refine sg ?_
 refine z _ ?_
 clear z Z
 simp only [nrm, reduceIte, Nat.reduceEqDiff]
 refine hK14 _ (by first | rfl | simp) (p.decls[k].vars.length - (i+1)) (by omega) ?_
 refine ⟨i+1, w + 1 + p.decls[k].vars[i].length / 50, by omega, ?_, by omega, by simp [encD, encPg]⟩
 rw [hw, List.drop_eq_getElem_cons hmv, cntVs_cons, if_pos (by omega)]
 simp [row_map, tdiv50, encPg, hkt, hms, hmv] at hb71
 refine AT_exit ?_
 simp only [nrm, reduceIte, Nat.reduceEqDiff]
 refine hK13 _ ?_
 refine sr fun Z z => ?_
 have hV : cntVs p.decls[k].vars (cntGs p.decls[k].sigs (cntFs p.decls[k].flds (cntFs p.decls[k].fms (c + 1 + p.decls[k].name.length / 50 + p.decls[k].recv.length / 50)))) = w := by
   rw [hw]
   (rw [List.drop_eq_getElem_cons hmv, cntVs_cons, if_neg (by omega)])
 simp [row_map, tdiv50, encPg, hkt, hms, hmv]
 refine z _ ?_
 clear z Z
 refine AT_cond (g := none) rfl (fun hb85 => ?_) (fun hb85 => ?_)
 simp [row_map, tdiv50, encPg, hkt, hms, hmv] at hb85
 refine AT_draw_q Pt.mixed (by kernel_rfl) fun Z z => ?_
 have u3 := cntG_ub q7 w
 simp [row_map, tdiv50, encPg, encD, hkt, hms, hmv, hb85]
 refine RVdn_call ((by have h := c_ref06x_countSig g rnd p.decls[k].sig q7 w (by omega); simp only [encG] at h; exact h)) ?_
 simp [row_map, tdiv50, encPg, encD, hkt, hms, hmv, hb85]
 refine RVdn_call ((by have h := c_ref05x_Count g rnd p.decls[k].body q8 (cntG p.decls[k].sig w) (by omega); simp only [encE_def] at h; exact h)) ?_
 simp [row_map, tdiv50, encPg, encD, hkt, hms, hmv, hb85]
 refine z _ ?_
 clear z Z
 simp only [nrm, reduceIte, Nat.reduceEqDiff]
 refine hK4 _ ?_
 refine AT_region_q fun Z z => ?_
 simp [row_map, tdiv50, encPg, hkt, hms, hmv, hb85]
 repeat refine sg ?_
 refine z _ ?_
 clear z Z
 simp only [nrm, reduceIte, Nat.reduceEqDiff]
 refine hK2 _ (by first | rfl | simp) (p.decls.length - (k+1)) (by omega) ?_
 (· refine ⟨k+1, cntE p.decls[k].body (cntG p.decls[k].sig w), by omega, ?_, by omega, by simp [encPg]⟩
    rw [hc, List.drop_eq_getElem_cons hkt, cntDs_cons, if_pos (by omega), cntD, hV, if_pos (by omega)])
 simp [row_map, tdiv50, encPg, hkt, hms, hmv] at hb85
 refine AT_skip ?_
 refine hK4 _ ?_
 refine AT_region_q fun Z z => ?_
 simp [row_map, tdiv50, encPg, hkt, hms, hmv, hb85]
 repeat refine sg ?_
 refine z _ ?_
 clear z Z
 simp only [nrm, reduceIte, Nat.reduceEqDiff]
 refine hK2 _ (by first | rfl | simp) (p.decls.length - (k+1)) (by omega) ?_
 (refine ⟨k+1, w, by omega, ?_, by omega, by simp [encPg]⟩
  rw [hc, List.drop_eq_getElem_cons hkt, cntDs_cons, if_pos (by omega), cntD, hV, if_neg (by omega)])
 refine sr fun Z z => ?_
 simp [row_map, tdiv50, encPg, encD, hkt, hms, hmv]
 refine z _ ?_
 clear z Z
 refine AT_cond (b := false) (g := none) (by simp [hkt, hms, hmv]) (fun hb => ?_) (fun hb => ?_)
 cases hb
 clear hb
 refine AT_exit ?_
 simp only [nrm, reduceIte, Nat.reduceEqDiff]
 refine hK13 _ ?_
 refine sr fun Z z => ?_
 have hV : cntVs p.decls[k].vars (cntGs p.decls[k].sigs (cntFs p.decls[k].flds (cntFs p.decls[k].fms (c + 1 + p.decls[k].name.length / 50 + p.decls[k].recv.length / 50)))) = w := by
   rw [hw]
   (rw [List.drop_eq_nil_of_le (by omega)]; rfl)
 simp [row_map, tdiv50, encPg, hkt, hms, hmv]
 refine z _ ?_
 clear z Z
 refine AT_cond (g := none) rfl (fun hb85 => ?_) (fun hb85 => ?_)
 simp [row_map, tdiv50, encPg, hkt, hms, hmv] at hb85
 refine AT_draw_q Pt.mixed (by kernel_rfl) fun Z z => ?_
 have u3 := cntG_ub q7 w
 simp [row_map, tdiv50, encPg, encD, hkt, hms, hmv, hb85]
 refine RVdn_call ((by have h := c_ref06x_countSig g rnd p.decls[k].sig q7 w (by omega); simp only [encG] at h; exact h)) ?_
 simp [row_map, tdiv50, encPg, encD, hkt, hms, hmv, hb85]
 refine RVdn_call ((by have h := c_ref05x_Count g rnd p.decls[k].body q8 (cntG p.decls[k].sig w) (by omega); simp only [encE_def] at h; exact h)) ?_
 simp [row_map, tdiv50, encPg, encD, hkt, hms, hmv, hb85]
 refine z _ ?_
 clear z Z
 simp only [nrm, reduceIte, Nat.reduceEqDiff]
 refine hK4 _ ?_
 refine AT_region_q fun Z z => ?_
 simp [row_map, tdiv50, encPg, hkt, hms, hmv, hb85]
 repeat refine sg ?_
 refine z _ ?_
 clear z Z
 simp only [nrm, reduceIte, Nat.reduceEqDiff]
 refine hK2 _ (by first | rfl | simp) (p.decls.length - (k+1)) (by omega) ?_
 (· refine ⟨k+1, cntE p.decls[k].body (cntG p.decls[k].sig w), by omega, ?_, by omega, by simp [encPg]⟩
    rw [hc, List.drop_eq_getElem_cons hkt, cntDs_cons, if_pos (by omega), cntD, hV, if_pos (by omega)])
 simp [row_map, tdiv50, encPg, hkt, hms, hmv] at hb85
 refine AT_skip ?_
 refine hK4 _ ?_
 refine AT_region_q fun Z z => ?_
 simp [row_map, tdiv50, encPg, hkt, hms, hmv, hb85]
 repeat refine sg ?_
 refine z _ ?_
 clear z Z
 simp only [nrm, reduceIte, Nat.reduceEqDiff]
 refine hK2 _ (by first | rfl | simp) (p.decls.length - (k+1)) (by omega) ?_
 (refine ⟨k+1, w, by omega, ?_, by omega, by simp [encPg]⟩
  rw [hc, List.drop_eq_getElem_cons hkt, cntDs_cons, if_pos (by omega), cntD, hV, if_neg (by omega)])
 simp [row_map, tdiv50, encPg, hkt] at hb19
 refine AT_exit ?_
 simp only [nrm, reduceIte, Nat.reduceEqDiff]
 refine hK1 _ ?_
 refine sr fun Z z => ?_
 simp [row_map, tdiv50, encPg, hkt]
 refine z _ ?_
 clear z Z
 refine AT_ret ?_
 simp [row_map, tdiv50, encPg, Tryz.f18]
 (rw [hc, List.drop_eq_getElem_cons hkt, cntDs_cons, if_neg (by omega)])
 refine sr fun Z z => ?_
 simp [row_map, tdiv50, encPg, hkt]
 refine z _ ?_
 clear z Z
 refine AT_cond (b := false) (g := none) (by simp [hkt]) (fun hb => ?_) (fun hb => ?_)
 cases hb
 clear hb
 refine AT_exit ?_
 simp only [nrm, reduceIte, Nat.reduceEqDiff]
 refine hK1 _ ?_
 refine sr fun Z z => ?_
 simp [row_map, tdiv50, encPg, hkt]
 refine z _ ?_
 clear z Z
 refine AT_ret ?_
 simp [row_map, tdiv50, encPg, Tryz.f18]
 (rw [hc, List.drop_eq_nil_of_le (by omega)]; rfl)

theorem c_ref06x_Few (p : Pg) (hf : fitPg p) : Valid Tryz.prog (G0 g rnd) 7 [.agg (encPg p)] (.bool (decide (cntPg p ≤ 600))) := by

 refine valid_of [] Tryz.func7 rfl (by kernel_rfl) ?_
 refine sr fun Z z => ?_
 simp [Tryz.f7]
 refine z _ ?_
 clear z Z
 refine sr fun Z z => ?_
 simp
 refine RVn_call (c_ref06x_Count g rnd p hf) ?_
 simp
 refine z _ ?_
 clear z Z
 refine AT_ret ?_
 simp [Tryz.f7]
 omega

end Go.Proofs.YtepbmjchhcmcoaaGreatDoor
end

import Derived.Test.YtepbmjchhcmcoaaGreatDoorPt
import Derived.Test.YtepbmjchhcmcoaaGreatDoorPvPb
import Derived.Test.YtepbmjchhcmcoaaGreatDoorPvY
import Derived.Test.YtepbmjchhcmcoaaGreatDoorPvFd
import Derived.Test.YtepbmjchhcmcoaaGreatDoorXTyE
import Derived.Test.YtepbmjchhcmcoaaGreatDoorXExC
import Derived.Test.YtepbmjchhcmcoaaGreatDoorPvRc
import Derived.Test.YtepbmjchhcmcoaaGreatDoorXRdE
import Derived.Test.YtepbmjchhcmcoaaGreatDoorXRdB
section
/- Contracts: the reference's texts. -/
set_option linter.all false
set_option maxHeartbeats 1000000
set_option maxRecDepth 10000
namespace Go.Proofs.YtepbmjchhcmcoaaGreatDoor
open Go Go.Pv
variable (g : Nat → Option (List AV)) (rnd : Bool)

theorem c_ref09x_formals (l : List Fm) (hw : wtFs l ≤ 1000000000) : Valid Tryz.prog (G0 g rnd) 63 [.slice (l.map encF)] (.str (fmsT l)) := by
 have hll := wtFs_len l
 refine valid_of [] Tryz.func63 rfl (by kernel_rfl) ?_
 refine sr fun Z z => ?_
 simp [row_map, encF, Tryz.f63]
 refine z _ ?_
 clear z Z
 refine sr fun Z z => ?_
 simp [row_map, encF]
 refine z _ ?_
 clear z Z
 refine AT_seq_k fun K1 hK1 => ?_
 refine sr fun Z z => ?_
 simp [row_map, encF]
 refine z _ ?_
 clear z Z
 refine AT_block ?_
 refine AT_loop_q [0,3,4] [] (fun j s => ∃ k, k ≤ l.length ∧ j = l.length - k ∧ s = { n := 35, tm := [(0, .v (.slice (l.map encF)) none), (3, .v (.str (bK (l.map txF) k)) none), (4, .v (.int .i64 k) none)], bx := [], tb := [], sh := [], hint := [] }) (l.length) (by first | rfl | simp) ?_ ?_
 ·
  exact ⟨0, by simp [bK_zero]⟩
 ·
  rintro j s ⟨k, hk, rfl, rfl⟩ K2 hK2
  refine AT_seq_k fun K3 hK3 => ?_
  refine sr fun Z z => ?_
  simp [row_map, encF]
  refine z _ ?_
  clear z Z
  refine AT_cond (g := none) rfl (fun hb8 => ?_) (fun hb8 => ?_)
  ·
   simp [row_map, encF] at hb8
   refine AT_skip ?_
   refine hK3 _ ?_
   refine AT_seq_k fun K4 hK4 => ?_
   refine AT_block ?_
   refine AT_seq_k fun K5 hK5 => ?_
   have hk9 : k < l.length := by omega
   have hm9 := wtFs_mem (l := l) (f := l[k]) (by simp)
   have hm8 : wtF l[k] = l[k].name.length + 1 + wt l[k].ty := rfl
   have hx9 := txt_wt l[k].ty
   have hj9 := jK_F l k
   have hq9 := bK_len (l.map txF) k
   by_cases hk0 : k = 0
   ·
    have hk0b : ((k : Int) == 0) = true := by rw [beq_iff_eq]; omega
    have hb9 := bK_at0 (l.map txF) k (by simpa using hk9) hk0
    simp only [List.getElem_map] at hb9
    refine sr fun Z z => ?_
    simp [row_map, encF, hb8, hk0b]
    refine z _ ?_
    clear z Z
    refine cT (by simp [hb8, hk0b]) ?_
    refine AT_region_q fun Z z => ?_
    simp [row_map, encF, hb8, hk0b]
    refine z _ ?_
    clear z Z
    refine hK5 _ ?_
    refine AT_draw_q Pt.mixed (by kernel_rfl) fun Z z => ?_
    simp [row_map, encF, hb8, hk0b]
    repeat refine sg ?_
    refine RVdn_call ((by have h := c_ref04x_Text g rnd l[k].ty (by omega); simp only [encTy_def] at h; exact h)) ?_
    simp [row_map, encF, hb8, hk0b]
    repeat refine sg ?_
    refine z _ ?_
    clear z Z
    refine hK4 _ ?_
    refine AT_region_q fun Z z => ?_
    simp [row_map, encF, hb8, hk0b]
    repeat refine sg ?_
    refine z _ ?_
    clear z Z
    refine hK2 _ (by first | rfl | simp) (l.length - (k+1)) (by omega) ?_
    refine ⟨k+1, by omega, by omega, ?_⟩
    simp [hb9, txF]
   ·
    have hk0b : ((k : Int) == 0) = false := by rw [beq_eq_false_iff_ne]; omega
    have hb9 := bK_succ (l.map txF) k (by simpa using hk9) hk0
    simp only [List.getElem_map] at hb9
    refine sr fun Z z => ?_
    simp [row_map, encF, hb8, hk0b]
    refine z _ ?_
    clear z Z
    refine cF (by simp [hb8, hk0b]) ?_
    refine AT_region_q fun Z z => ?_
    simp [row_map, encF, hb8, hk0b]
    repeat refine sg ?_
    refine z _ ?_
    clear z Z
    refine hK5 _ ?_
    refine AT_draw_q Pt.mixed (by kernel_rfl) fun Z z => ?_
    simp [row_map, encF, hb8, hk0b]
    repeat refine sg ?_
    refine RVdn_call ((by have h := c_ref04x_Text g rnd l[k].ty (by omega); simp only [encTy_def] at h; exact h)) ?_
    simp [row_map, encF, hb8, hk0b]
    repeat refine sg ?_
    refine z _ ?_
    clear z Z
    refine hK4 _ ?_
    refine AT_region_q fun Z z => ?_
    simp [row_map, encF, hb8, hk0b]
    repeat refine sg ?_
    refine z _ ?_
    clear z Z
    refine hK2 _ (by first | rfl | simp) (l.length - (k+1)) (by omega) ?_
    refine ⟨k+1, by omega, by omega, ?_⟩
    simp [hb9, txF]
  ·
   simp [row_map, encF] at hb8
   refine AT_exit ?_
   refine hK1 _ ?_
   refine AT_seq_k fun K6 hK6 => ?_
   have hk9 : k = l.length := by omega
   subst hk9
   have hj9 := jK_F l l.length
   have hq9 := bK_len (l.map txF) l.length
   cases he : l.isEmpty
   ·
    have hne := ne_of_isEmpty he
    have hnl : ¬ l.length = 0 := fun h => hne (List.eq_nil_of_length_eq_zero h)
    have hbk : (bK (l.map txF) l.length == []) = false := by rw [bK, if_neg hnl]; rfl
    have hft : fmsT l = bK (l.map txF) l.length ++ [93] := by rw [fmsT_bK, if_neg (by rw [he]; exact Bool.false_ne_true)]
    refine sr fun Z z => ?_
    simp [row_map, encF, hb8, hbk]
    refine z _ ?_
    clear z Z
    refine cT (by simp [hb8, hbk]) ?_
    refine AT_region_q fun Z z => ?_
    simp [row_map, encF, hb8, hbk]
    repeat refine sg ?_
    refine z _ ?_
    clear z Z
    refine hK6 _ ?_
    refine sr fun Z z => ?_
    simp [row_map, encF, hb8, hbk]
    refine z _ ?_
    clear z Z
    refine AT_ret ?_
    simp [row_map, encF, Tryz.f63]
    all_goals first | (· rw [hft]) | (· simp [hft]) | skip
   ·
    have hl0 := List.isEmpty_iff.1 he
    have hbk : (bK (l.map txF) l.length == []) = true := by rw [hl0]; rfl
    have hft : fmsT l = bK (l.map txF) l.length := by rw [hl0]; rfl
    refine sr fun Z z => ?_
    simp [row_map, encF, hb8, hbk]
    refine z _ ?_
    clear z Z
    refine cF (by simp [hb8, hbk]) ?_
    refine AT_skip ?_
    refine hK6 _ ?_
    refine sr fun Z z => ?_
    simp [row_map, encF, hb8, hbk]
    refine z _ ?_
    clear z Z
    refine AT_ret ?_
    simp [row_map, encF, Tryz.f63]
    all_goals first | (· rw [hft]) | (· simp [hft]) | skip

theorem c_ref09x_Sig (s : Sg) (hw : wtG s ≤ 400000000) : Valid Tryz.prog (G0 g rnd) 62 [.agg (encG s)] (.str (sigT s)) := by
 have hw2 : s.name.length + 1 + wtFs s.fms + wtFs s.pms + wt s.res ≤ 400000000 := hw
 have hxt := txt_wt s.res
 have hfl := fmsT_wt s.fms
 have hpl := wtFs_len s.pms
 refine valid_of [] Tryz.func62 rfl (by kernel_rfl) ?_
 refine sr fun Z z => ?_
 simp [row_map, encG, encF, Tryz.f62]
 refine z _ ?_
 clear z Z
 refine AT_seq_draw Pt.mixed (by kernel_rfl) fun Z z => ?_
 simp [row_map, encG, encF]
 refine RVdn_call (c_ref09x_formals g rnd s.fms (by omega)) ?_
 simp [row_map, encG, encF]
 repeat refine sg ?_
 refine z _ ?_
 clear z Z
 refine AT_seq_k fun K1 hK1 => ?_
 refine sr fun Z z => ?_
 simp [row_map, encG, encF]
 refine z _ ?_
 clear z Z
 refine AT_block ?_
 refine AT_loop_q [1,3,4] [1] (fun j s1 => ∃ k, k ≤ s.pms.length ∧ j = s.pms.length - k ∧ s1 = { n := 46, tm := [(1, .lp 1 0), (3, .v (.str (s.name ++ fmsT s.fms ++ [40] ++ jK (s.pms.map txF) k)) none), (4, .v (.int .i64 k) none)], bx := [(1, encG s)], tb := [], sh := [], hint := [] }) (s.pms.length) (by first | rfl | simp) ?_ ?_
 exact ⟨0, by simp [jK_zero, encG]⟩
 rintro j s1 ⟨k, hk, rfl, rfl⟩ K2 hK2
 refine AT_seq_k fun K3 hK3 => ?_
 refine sr fun Z z => ?_
 simp [row_map, encG, encF]
 refine z _ ?_
 clear z Z
 refine AT_cond (g := none) rfl (fun hb16 => ?_) (fun hb16 => ?_)
 simp [row_map, encG, encF] at hb16
 refine AT_skip ?_
 refine hK3 _ ?_
 refine AT_seq_k fun K4 hK4 => ?_
 refine AT_block ?_
 refine AT_seq_k fun K5 hK5 => ?_
 have hk9 : k < s.pms.length := by omega
 have hm9 := wtFs_mem (l := s.pms) (f := s.pms[k]) (by simp)
 have hm8 : wtF s.pms[k] = s.pms[k].name.length + 1 + wt s.pms[k].ty := rfl
 have hx9 := txt_wt s.pms[k].ty
 have hj9 := jK_F s.pms k
 by_cases hk0 : k = 0
 have hkc : (0 < k) = False := eq_false (by omega)
 have hb9 := jK_at0 (s.pms.map txF) k (by simpa using hk9) hk0
 simp only [List.getElem_map] at hb9
 refine sr fun Z z => ?_
 simp [row_map, encG, encF, hb16, hkc]
 refine z _ ?_
 clear z Z
 refine cF (by simp [hb16, hkc]) ?_
 refine AT_skip ?_
 refine hK5 _ ?_
 refine AT_draw_q Pt.mixed (by kernel_rfl) fun Z z => ?_
 simp [row_map, encG, encF, hb16, hkc]
 repeat refine sg ?_
 refine RVdn_call ((by have h := c_ref04x_Text g rnd s.pms[k].ty (by omega); simp only [encTy_def] at h; exact h)) ?_
 simp [row_map, encG, encF, hb16, hkc]
 repeat refine sg ?_
 refine z _ ?_
 clear z Z
 refine hK4 _ ?_
 refine AT_region_q fun Z z => ?_
 simp [row_map, encG, encF, hb16, hkc]
 repeat refine sg ?_
 refine z _ ?_
 clear z Z
 refine hK2 _ (by first | rfl | simp) (s.pms.length - (k+1)) (by omega) ?_
 refine ⟨k+1, by omega, by omega, ?_⟩
 simp [hb9, txF, encG]
 have hkc : (0 < k) = True := eq_true (by omega)
 have hb9 := jK_succ (s.pms.map txF) k (by simpa using hk9) hk0
 simp only [List.getElem_map] at hb9
 refine sr fun Z z => ?_
 simp [row_map, encG, encF, hb16, hkc]
 refine z _ ?_
 clear z Z
 refine cT (by simp [hb16, hkc]) ?_
 refine AT_region_q fun Z z => ?_
 simp [row_map, encG, encF, hb16, hkc]
 repeat refine sg ?_
 refine z _ ?_
 clear z Z
 refine hK5 _ ?_
 refine AT_draw_q Pt.mixed (by kernel_rfl) fun Z z => ?_
 simp [row_map, encG, encF, hb16, hkc]
 repeat refine sg ?_
 refine RVdn_call ((by have h := c_ref04x_Text g rnd s.pms[k].ty (by omega); simp only [encTy_def] at h; exact h)) ?_
 simp [row_map, encG, encF, hb16, hkc]
 repeat refine sg ?_
 refine z _ ?_
 clear z Z
 refine hK4 _ ?_
 refine AT_region_q fun Z z => ?_
 simp [row_map, encG, encF, hb16, hkc]
 repeat refine sg ?_
 refine z _ ?_
 clear z Z
 refine hK2 _ (by first | rfl | simp) (s.pms.length - (k+1)) (by omega) ?_
 refine ⟨k+1, by omega, by omega, ?_⟩
 simp [hb9, txF, encG]
 simp [row_map, encG, encF] at hb16
 refine AT_exit ?_
 refine hK1 _ ?_
 refine sr fun Z z => ?_
 have hk9 : k = s.pms.length := by omega
 subst hk9
 have hj9 := jK_F s.pms s.pms.length
 have hja := jK_all (s.pms.map txF)
 rw [List.length_map] at hja
 simp [row_map, encG, encF, hb16]
 repeat refine sg ?_
 refine RVn_call ((by have h := c_ref04x_Text g rnd s.res (by omega); simp only [encTy_def] at h; exact h)) ?_
 simp [row_map, encG, encF, hb16]
 repeat refine sg ?_
 refine z _ ?_
 clear z Z
 refine AT_ret ?_
 simp [row_map, encG, encF, Tryz.f62]
 simp [sigT, hja]

end Go.Proofs.YtepbmjchhcmcoaaGreatDoor
end

section
/- Contracts: the reference's texts of declarations and programs. -/
set_option linter.all false
set_option maxHeartbeats 1000000
set_option maxRecDepth 10000
namespace Go.Proofs.YtepbmjchhcmcoaaGreatDoor
open Go Go.Pv
variable (g : Nat → Option (List AV)) (rnd : Bool)

theorem c_ref09x_Decl (a : Dc) (hw : wtD a ≤ 400000000) (hr : a.kind = 1 ∨ a.kind = 2 ∨ (a.kind = 3 ∧ rightE a.body = true)) : Valid Tryz.prog (G0 g rnd) 30 [.agg (encD a)] (.str (declT a)) := by
 have hw2 : a.name.length + 1 + wtFs a.fms + wtFs a.flds + wtGs a.sigs + a.recv.length + wtSs a.vars + wtG a.sig + wtE a.body ≤ 400000000 := hw
 have hl1 := wtFs_len a.fms
 have hl2 := wtFs_len a.flds
 have hl3 := wtGs_len a.sigs
 have hl4 := wtSs_len a.vars
 have hfl := fmsT_wt a.fms
 have hvl := varsT_wt a.vars
 have hsl := sigT_wt a.sig
 have hbl := txtE_wt a.body
 have hn1 := linesF_wt a.flds
 have hn2 := linesG_wt a.sigs
 have hff : (if a.fms.isEmpty then [] else [91] ++ Lib.join (a.fms.map txF) [44, 32] ++ [93] : Str) = fmsT a.fms := rfl
 have hvv : (if a.vars.isEmpty then [] else [91] ++ Lib.join (a.vars.map id) [44, 32] ++ [93] : Str) = varsT a.vars := by rw [List.map_id]; rfl
 have hvt : (varsT a.vars).length ≤ 2 * wtSs a.vars + 2 := by
   unfold varsT
   split
   · simp
   · simp; omega
 have hb1 := bodyLen_d a.flds a.sigs
 have hb2 := bodyLen_one (114 :: 101 :: 116 :: 117 :: 114 :: 110 :: 32 :: txtE a.body)
 simp only [List.length_cons] at hb2
 refine valid_of [] Tryz.func30 rfl (by kernel_rfl) ?_
 refine sr fun Z z => ?_
 simp [row_map, encD, encS, Tryz.f30]
 refine z _ ?_
 clear z Z
 refine AT_seq_k fun K1 hK1 => ?_
 cases hk3 : (a.kind == 3)
 ·
  have hz3 : ¬ a.kind = 3 := by simpa using hk3
  obtain ⟨w9, hw9, hfr⟩ : ∃ w9 : Str, w9.length ≤ 10 ∧ frontT a = wTy ++ a.name ++ fmsT a.fms ++ w9 := by
    rcases hr with h | h | h
    · exact ⟨_, (by decide : ([32, 115, 116, 114, 117, 99, 116] : Str).length ≤ 10), by rw [frontT, if_pos h]⟩
    · exact ⟨_, (by decide : ([32, 105, 110, 116, 101, 114, 102, 97, 99, 101] : Str).length ≤ 10), by rw [frontT, if_neg (by omega), if_pos h]⟩
    · exact absurd h.1 hz3
  have hli : linesT a = (a.flds.map lnF ++ a.sigs.map lnG) := by rw [linesT, if_pos (by omega)]
  refine sr fun Z z => ?_
  simp [row_map, encD, encS, hk3]
  refine z _ ?_
  clear z Z
  refine cF (by simp [hk3]) ?_
  refine AT_skip ?_
  refine hK1 _ ?_
  refine AT_seq_draw Pt.mixed (by kernel_rfl) fun Z z => ?_
  simp [row_map, encD, encS, hk3]
  repeat refine sg ?_
  refine RVdn_call (c_ref09x_formals g rnd a.fms (by omega)) ?_
  simp [row_map, encD, encS, hk3]
  repeat refine sg ?_
  refine z _ ?_
  clear z Z
  refine AT_seq_k fun K2 hK2 => ?_
  cases hk1 : (a.kind == 1)
  ·
   have hz1 : ¬ a.kind = 1 := by simpa using hk1
   obtain rfl : w9 = [32, 105, 110, 116, 101, 114, 102, 97, 99, 101] := by
     have h9 := hfr
     rw [frontT, if_neg hz1, if_pos (by omega)] at h9
     exact (List.append_cancel_left h9).symm
   refine sr fun Z z => ?_
   simp [row_map, encD, encS, hk3, hk1]
   refine z _ ?_
   clear z Z
   refine cF (by simp [hk3, hk1]) ?_
   refine AT_region_q fun Z z => ?_
   simp [row_map, encD, encS, hk3, hk1]
   repeat refine sg ?_
   refine z _ ?_
   clear z Z
   refine hK2 _ ?_
   refine AT_seq_k fun K3 hK3 => ?_
   refine sr fun Z z => ?_
   simp [row_map, encD, encS, hk3, hk1]
   refine z _ ?_
   clear z Z
   refine AT_block ?_
   refine AT_loop_q [1,5,6] [1] (fun j s => ∃ k, k ≤ a.flds.length ∧ j = a.flds.length - k ∧ s = { n := 115, tm := [(1, .lp 1 0), (5, .v (.str (frontT a ++ [32, 123, 10] ++ flT ((a.flds.map lnF).map lineT) k)) none), (6, .v (.int .i64 k) none)], bx := [(1, encD a)], tb := [], sh := [], hint := [] }) (a.flds.length) (by first | rfl | simp) ?_ ?_
   ·
    exact ⟨0, by simp [flT_nil, encD, hfr, wTy]⟩
   ·
    rintro j s ⟨k, hk, rfl, rfl⟩ K4 hK4
    refine AT_seq_k fun K5 hK5 => ?_
    refine sr fun Z z => ?_
    simp [row_map, encD, encS, hk3, hk1]
    refine z _ ?_
    clear z Z
    refine AT_cond (g := none) rfl (fun hb74 => ?_) (fun hb74 => ?_)
    ·
     simp [row_map, encD, encS, hk3, hk1] at hb74
     refine AT_skip ?_
     refine hK5 _ ?_
     refine AT_seq_k fun K6 hK6 => ?_
     refine AT_block ?_
     refine AT_draw_q Pt.mixed (by kernel_rfl) fun Z z => ?_
     have hk9 : k < a.flds.length := by omega
     have hm9 := wtFs_mem (l := a.flds) (f := a.flds[k]) (by simp)
     have hm8 : wtF a.flds[k] = a.flds[k].name.length + 1 + wt a.flds[k].ty := rfl
     have hx9 := txt_wt a.flds[k].ty
     have hu9 := lines_succF a.flds k hk9
     have hv9 := lines_lenF a.flds k
     have hfl9 : (frontT a).length ≤ a.name.length + (fmsT a.fms).length + 20 := by rw [hfr]; simp [wTy]; omega
     simp [row_map, encD, encS, encF, hk3, hk1, hb74]
     repeat refine sg ?_
     refine RVdn_call ((by have h := c_ref04x_Text g rnd a.flds[k].ty (by omega); simp only [encTy_def] at h; exact h)) ?_
     simp [row_map, encD, encS, encF, hk3, hk1, hb74]
     repeat refine sg ?_
     refine z _ ?_
     clear z Z
     refine hK6 _ ?_
     refine AT_region_q fun Z z => ?_
     simp [row_map, encD, encS, hk3, hk1, hb74]
     repeat refine sg ?_
     refine z _ ?_
     clear z Z
     refine hK4 _ (by first | rfl | simp) (a.flds.length - (k+1)) (by omega) ?_
     refine ⟨k+1, by omega, by omega, ?_⟩
     simp only [hu9]
     simp [encD]
    ·
     simp [row_map, encD, encS, hk3, hk1] at hb74
     refine AT_exit ?_
     refine hK3 _ ?_
     refine AT_seq_k fun K7 hK7 => ?_
     refine sr fun Z z => ?_
     have hk9 : k = a.flds.length := by omega
     subst hk9
     have hfa := lines_allF a.flds
     simp only [List.map_map] at hfa
     rw [hfa]
     simp [row_map, encD, encS, hk3, hk1, hb74]
     refine z _ ?_
     clear z Z
     refine AT_block ?_
     refine AT_loop_q [1,5,7] [1] (fun j s => ∃ m, m ≤ a.sigs.length ∧ j = a.sigs.length - m ∧ s = { n := 115, tm := [(1, .lp 1 0), (5, .v (.str (frontT a ++ [32, 123, 10] ++ ((a.flds.map lnF).map lineT).flatten ++ flT ((a.sigs.map lnG).map lineT) m)) none), (7, .v (.int .i64 m) none)], bx := [(1, encD a)], tb := [], sh := [], hint := [] }) (a.sigs.length) (by first | rfl | simp) ?_ ?_
     ·
      exact ⟨0, by simp [flT_nil, encD]⟩
     ·
      rintro j s ⟨m, hm, rfl, rfl⟩ K8 hK8
      refine AT_seq_k fun K9 hK9 => ?_
      refine sr fun Z z => ?_
      simp [row_map, encD, encS, hk3, hk1, hb74]
      refine z _ ?_
      clear z Z
      refine AT_cond (g := none) rfl (fun hb100 => ?_) (fun hb100 => ?_)
      ·
       simp [row_map, encD, encS, hk3, hk1, hb74] at hb100
       refine AT_skip ?_
       refine hK9 _ ?_
       refine AT_seq_k fun K10 hK10 => ?_
       refine AT_block ?_
       refine AT_region_q fun Z z => ?_
       have hm9 : m < a.sigs.length := by omega
       have hg9 := wtGs_mem (l := a.sigs) (f := a.sigs[m]) (by simp)
       have hx9 := sigT_wt a.sigs[m]
       have hu9 := lines_succG a.sigs m hm9
       have hv9 := lines_lenG a.sigs m
       have hv8 := linesF_wt a.flds
       have hfl9 : (frontT a).length ≤ a.name.length + (fmsT a.fms).length + 20 := by rw [hfr]; simp [wTy]; omega
       simp [row_map, encD, encS, encG, hk3, hk1, hb74, hb100]
       repeat refine sg ?_
       refine RVn_call ((by have h := c_ref09x_Sig g rnd a.sigs[m] (by omega); simp only [encG] at h; exact h)) ?_
       simp [row_map, encD, encS, encG, hk3, hk1, hb74, hb100]
       repeat refine sg ?_
       refine z _ ?_
       clear z Z
       refine hK10 _ ?_
       refine AT_region_q fun Z z => ?_
       simp [row_map, encD, encS, hk3, hk1, hb74, hb100]
       repeat refine sg ?_
       refine z _ ?_
       clear z Z
       refine hK8 _ (by first | rfl | simp) (a.sigs.length - (m+1)) (by omega) ?_
       refine ⟨m+1, by omega, by omega, ?_⟩
       simp only [hu9]
       simp [encD]
      ·
       simp [row_map, encD, encS, hk3, hk1, hb74] at hb100
       refine AT_exit ?_
       refine hK7 _ ?_
       refine sr fun Z z => ?_
       have hm9 : m = a.sigs.length := by omega
       subst hm9
       have hga := lines_allG a.sigs
       simp only [List.map_map] at hga
       rw [hga]
       have hfl9 : (frontT a).length ≤ a.name.length + (fmsT a.fms).length + 20 := by rw [hfr]; simp [wTy]; omega
       simp [row_map, encD, encS, hk3, hk1, hb74, hb100]
       repeat refine sg ?_
       refine z _ ?_
       clear z Z
       refine AT_ret ?_
       simp [row_map, encD, encS, Tryz.f30]
       all_goals first | (· simp [declT, blockT, hfr, hli, hft, lineT, wFn, wRet]) | (· simp [declT, blockT, hli]) | skip
  ·
   have hz1 : a.kind = 1 := by simpa using hk1
   obtain rfl : w9 = [32, 115, 116, 114, 117, 99, 116] := by
     have h9 := hfr
     rw [frontT, if_pos hz1] at h9
     exact (List.append_cancel_left h9).symm
   refine sr fun Z z => ?_
   simp [row_map, encD, encS, hk3, hk1]
   refine z _ ?_
   clear z Z
   refine cT (by simp [hk3, hk1]) ?_
   refine AT_region_q fun Z z => ?_
   simp [row_map, encD, encS, hk3, hk1]
   repeat refine sg ?_
   refine z _ ?_
   clear z Z
   refine hK2 _ ?_
   refine AT_seq_k fun K11 hK11 => ?_
   refine sr fun Z z => ?_
   simp [row_map, encD, encS, hk3, hk1]
   refine z _ ?_
   clear z Z
   refine AT_block ?_
   refine AT_loop_q [1,5,6] [1] (fun j s => ∃ k, k ≤ a.flds.length ∧ j = a.flds.length - k ∧ s = { n := 115, tm := [(1, .lp 1 0), (5, .v (.str (frontT a ++ [32, 123, 10] ++ flT ((a.flds.map lnF).map lineT) k)) none), (6, .v (.int .i64 k) none)], bx := [(1, encD a)], tb := [], sh := [], hint := [] }) (a.flds.length) (by first | rfl | simp) ?_ ?_
   ·
    exact ⟨0, by simp [flT_nil, encD, hfr, wTy]⟩
   ·
    rintro j s ⟨k, hk, rfl, rfl⟩ K12 hK12
    refine AT_seq_k fun K13 hK13 => ?_
    refine sr fun Z z => ?_
    simp [row_map, encD, encS, hk3, hk1]
    refine z _ ?_
    clear z Z
    refine AT_cond (g := none) rfl (fun hb74 => ?_) (fun hb74 => ?_)
    ·
     simp [row_map, encD, encS, hk3, hk1] at hb74
     refine AT_skip ?_
     refine hK13 _ ?_
     refine AT_seq_k fun K14 hK14 => ?_
     refine AT_block ?_
     refine AT_draw_q Pt.mixed (by kernel_rfl) fun Z z => ?_
     have hk9 : k < a.flds.length := by omega
     have hm9 := wtFs_mem (l := a.flds) (f := a.flds[k]) (by simp)
     have hm8 : wtF a.flds[k] = a.flds[k].name.length + 1 + wt a.flds[k].ty := rfl
     have hx9 := txt_wt a.flds[k].ty
     have hu9 := lines_succF a.flds k hk9
     have hv9 := lines_lenF a.flds k
     have hfl9 : (frontT a).length ≤ a.name.length + (fmsT a.fms).length + 20 := by rw [hfr]; simp [wTy]; omega
     simp [row_map, encD, encS, encF, hk3, hk1, hb74]
     repeat refine sg ?_
     refine RVdn_call ((by have h := c_ref04x_Text g rnd a.flds[k].ty (by omega); simp only [encTy_def] at h; exact h)) ?_
     simp [row_map, encD, encS, encF, hk3, hk1, hb74]
     repeat refine sg ?_
     refine z _ ?_
     clear z Z
     refine hK14 _ ?_
     refine AT_region_q fun Z z => ?_
     simp [row_map, encD, encS, hk3, hk1, hb74]
     repeat refine sg ?_
     refine z _ ?_
     clear z Z
     refine hK12 _ (by first | rfl | simp) (a.flds.length - (k+1)) (by omega) ?_
     refine ⟨k+1, by omega, by omega, ?_⟩
     simp only [hu9]
     simp [encD]
    ·
     simp [row_map, encD, encS, hk3, hk1] at hb74
     refine AT_exit ?_
     refine hK11 _ ?_
     refine AT_seq_k fun K15 hK15 => ?_
     refine sr fun Z z => ?_
     have hk9 : k = a.flds.length := by omega
     subst hk9
     have hfa := lines_allF a.flds
     simp only [List.map_map] at hfa
     rw [hfa]
     simp [row_map, encD, encS, hk3, hk1, hb74]
     refine z _ ?_
     clear z Z
     refine AT_block ?_
     refine AT_loop_q [1,5,7] [1] (fun j s => ∃ m, m ≤ a.sigs.length ∧ j = a.sigs.length - m ∧ s = { n := 115, tm := [(1, .lp 1 0), (5, .v (.str (frontT a ++ [32, 123, 10] ++ ((a.flds.map lnF).map lineT).flatten ++ flT ((a.sigs.map lnG).map lineT) m)) none), (7, .v (.int .i64 m) none)], bx := [(1, encD a)], tb := [], sh := [], hint := [] }) (a.sigs.length) (by first | rfl | simp) ?_ ?_
     ·
      exact ⟨0, by simp [flT_nil, encD]⟩
     ·
      rintro j s ⟨m, hm, rfl, rfl⟩ K16 hK16
      refine AT_seq_k fun K17 hK17 => ?_
      refine sr fun Z z => ?_
      simp [row_map, encD, encS, hk3, hk1, hb74]
      refine z _ ?_
      clear z Z
      refine AT_cond (g := none) rfl (fun hb100 => ?_) (fun hb100 => ?_)
      ·
       simp [row_map, encD, encS, hk3, hk1, hb74] at hb100
       refine AT_skip ?_
       refine hK17 _ ?_
       refine AT_seq_k fun K18 hK18 => ?_
       refine AT_block ?_
       refine AT_region_q fun Z z => ?_
       have hm9 : m < a.sigs.length := by omega
       have hg9 := wtGs_mem (l := a.sigs) (f := a.sigs[m]) (by simp)
       have hx9 := sigT_wt a.sigs[m]
       have hu9 := lines_succG a.sigs m hm9
       have hv9 := lines_lenG a.sigs m
       have hv8 := linesF_wt a.flds
       have hfl9 : (frontT a).length ≤ a.name.length + (fmsT a.fms).length + 20 := by rw [hfr]; simp [wTy]; omega
       simp [row_map, encD, encS, encG, hk3, hk1, hb74, hb100]
       repeat refine sg ?_
       refine RVn_call ((by have h := c_ref09x_Sig g rnd a.sigs[m] (by omega); simp only [encG] at h; exact h)) ?_
       simp [row_map, encD, encS, encG, hk3, hk1, hb74, hb100]
       repeat refine sg ?_
       refine z _ ?_
       clear z Z
       refine hK18 _ ?_
       refine AT_region_q fun Z z => ?_
       simp [row_map, encD, encS, hk3, hk1, hb74, hb100]
       repeat refine sg ?_
       refine z _ ?_
       clear z Z
       refine hK16 _ (by first | rfl | simp) (a.sigs.length - (m+1)) (by omega) ?_
       refine ⟨m+1, by omega, by omega, ?_⟩
       simp only [hu9]
       simp [encD]
      ·
       simp [row_map, encD, encS, hk3, hk1, hb74] at hb100
       refine AT_exit ?_
       refine hK15 _ ?_
       refine sr fun Z z => ?_
       have hm9 : m = a.sigs.length := by omega
       subst hm9
       have hga := lines_allG a.sigs
       simp only [List.map_map] at hga
       rw [hga]
       have hfl9 : (frontT a).length ≤ a.name.length + (fmsT a.fms).length + 20 := by rw [hfr]; simp [wTy]; omega
       simp [row_map, encD, encS, hk3, hk1, hb74, hb100]
       repeat refine sg ?_
       refine z _ ?_
       clear z Z
       refine AT_ret ?_
       simp [row_map, encD, encS, Tryz.f30]
       all_goals first | (· simp [declT, blockT, hfr, hli, hft, lineT, wFn, wRet]) | (· simp [declT, blockT, hli]) | skip
 ·
  have hz3 : a.kind = 3 := by simpa using hk3
  have hrb : rightE a.body = true := by
    rcases hr with h | h | h
    · omega
    · omega
    · exact h.2
  have hfr : frontT a = wFn ++ a.recv ++ [32] ++ a.name ++ varsT a.vars ++ [41, 32] ++ sigT a.sig := by rw [frontT, if_neg (by omega), if_neg (by omega)]
  have hli : linesT a = [wRet ++ txtE a.body] := by rw [linesT, if_neg (by omega)]
  refine sr fun Z z => ?_
  simp [row_map, encD, encS, hk3]
  refine z _ ?_
  clear z Z
  refine cT (by simp [hk3]) ?_
  refine sr fun Z z => ?_
  simp [row_map, encD, encS, hk3]
  repeat refine sg ?_
  refine z _ ?_
  clear z Z
  refine AT_seq_k fun K19 hK19 => ?_
  refine sr fun Z z => ?_
  simp [row_map, encD, encS, hk3]
  refine z _ ?_
  clear z Z
  refine AT_block ?_
  refine AT_loop_q [1,3,4] [1] (fun j s => ∃ k, k ≤ a.vars.length ∧ j = a.vars.length - k ∧ s = { n := 115, tm := [(1, .lp 1 0), (3, .v (.str ((wFn ++ a.recv ++ [32] ++ a.name) ++ bK a.vars k)) none), (4, .v (.int .i64 k) none)], bx := [(1, encD a)], tb := [], sh := [], hint := [] }) (a.vars.length) (by first | rfl | simp) ?_ ?_
  ·
   exact ⟨0, by simp [bK_zero, encD, wFn]⟩
  ·
   rintro j s ⟨k, hk, rfl, rfl⟩ K20 hK20
   refine AT_seq_k fun K21 hK21 => ?_
   refine sr fun Z z => ?_
   simp [row_map, encD, encS, hk3]
   refine z _ ?_
   clear z Z
   refine AT_cond (g := none) rfl (fun hb22 => ?_) (fun hb22 => ?_)
   ·
    simp [row_map, encD, encS, hk3] at hb22
    refine AT_skip ?_
    refine hK21 _ ?_
    refine AT_seq_k fun K22 hK22 => ?_
    refine AT_block ?_
    refine AT_seq_k fun K23 hK23 => ?_
    have hk9 : k < a.vars.length := by omega
    have hm9 := wtSs_mem (l := a.vars) (f := a.vars[k]) (by simp)
    have hj9 := jK_V a.vars k
    have hq9 := bK_len a.vars k
    by_cases hk0 : k = 0
    ·
     have hk0b : ((k : Int) == 0) = true := by rw [beq_iff_eq]; omega
     have hb9 := bK_at0 a.vars k hk9 hk0
     have hbk0 : bK a.vars k = [] := by rw [bK, if_pos hk0]
     refine sr fun Z z => ?_
     simp [row_map, encD, encS, wFn, hk3, hb22, hk0b]
     refine z _ ?_
     clear z Z
     refine cT (by simp [hk3, hb22, hk0b]) ?_
     refine AT_region_q fun Z z => ?_
     simp [row_map, encD, encS, hk3, hb22, hk0b]
     repeat refine sg ?_
     refine z _ ?_
     clear z Z
     refine hK23 _ ?_
     refine AT_region_q fun Z z => ?_
     simp [row_map, encD, encS, hk3, hb22, hk0b]
     repeat refine sg ?_
     refine z _ ?_
     clear z Z
     refine hK22 _ ?_
     refine AT_region_q fun Z z => ?_
     simp [row_map, encD, encS, hk3, hb22, hk0b]
     repeat refine sg ?_
     refine z _ ?_
     clear z Z
     refine hK20 _ (by first | rfl | simp) (a.vars.length - (k+1)) (by omega) ?_
     refine ⟨k+1, by omega, by omega, ?_⟩
     simp [hb9, encD, wFn, hbk0]
    ·
     have hk0b : ((k : Int) == 0) = false := by rw [beq_eq_false_iff_ne]; omega
     have hb9 := bK_succ a.vars k hk9 hk0
     have hbk0 : a.vars[k] = a.vars[k] := rfl
     refine sr fun Z z => ?_
     simp [row_map, encD, encS, wFn, hk3, hb22, hk0b]
     refine z _ ?_
     clear z Z
     refine cF (by simp [hk3, hb22, hk0b]) ?_
     refine AT_region_q fun Z z => ?_
     simp [row_map, encD, encS, hk3, hb22, hk0b]
     repeat refine sg ?_
     refine z _ ?_
     clear z Z
     refine hK23 _ ?_
     refine AT_region_q fun Z z => ?_
     simp [row_map, encD, encS, hk3, hb22, hk0b]
     repeat refine sg ?_
     refine z _ ?_
     clear z Z
     refine hK22 _ ?_
     refine AT_region_q fun Z z => ?_
     simp [row_map, encD, encS, hk3, hb22, hk0b]
     repeat refine sg ?_
     refine z _ ?_
     clear z Z
     refine hK20 _ (by first | rfl | simp) (a.vars.length - (k+1)) (by omega) ?_
     refine ⟨k+1, by omega, by omega, ?_⟩
     simp [hb9, encD, wFn, hbk0]
   ·
    simp [row_map, encD, encS, hk3] at hb22
    refine AT_exit ?_
    refine hK19 _ ?_
    refine AT_seq_k fun K24 hK24 => ?_
    have hk9 : k = a.vars.length := by omega
    subst hk9
    have hj9 := jK_V a.vars a.vars.length
    have hq9 := bK_len a.vars a.vars.length
    cases he : a.vars.isEmpty
    ·
     have hkc : (0 < a.vars.length) = True := eq_true (by have := ne_of_isEmpty he; exact List.length_pos_iff.2 this)
     have hft : varsT a.vars = bK a.vars a.vars.length ++ [93] := by rw [varsT_bK, if_neg (by rw [he]; exact Bool.false_ne_true)]
     refine sr fun Z z => ?_
     simp [row_map, encD, encS, hk3, hb22, hkc]
     refine z _ ?_
     clear z Z
     refine cT (by simp [hk3, hb22, hkc]) ?_
     refine AT_region_q fun Z z => ?_
     simp [row_map, encD, encS, wFn, hk3, hb22, hkc]
     repeat refine sg ?_
     refine z _ ?_
     clear z Z
     refine hK24 _ ?_
     refine AT_seq_draw Pt.mixed (by kernel_rfl) fun Z z => ?_
     simp [row_map, encD, encS, wFn, hk3, hb22, hkc]
     repeat refine sg ?_
     refine RVdn_call ((by have h := c_ref09x_Sig g rnd a.sig (by omega); simp only [encG] at h; exact h)) ?_
     simp [row_map, encD, encS, wFn, hk3, hb22, hkc]
     repeat refine sg ?_
     refine RVdn_call ((by have h := c_ref05x_Text g rnd a.body hrb (by omega); simp only [encE_def] at h; exact h)) ?_
     simp [row_map, encD, encS, wFn, hk3, hb22, hkc]
     repeat refine sg ?_
     refine z _ ?_
     clear z Z
     refine AT_ret ?_
     simp [row_map, encD, encS, Tryz.f30]
     all_goals first | (· simp [declT, blockT, hfr, hli, hft, lineT, wFn, wRet]) | (· simp [declT, blockT, hli]) | skip
    ·
     have hl0 := List.isEmpty_iff.1 he
     have hkc : (0 < a.vars.length) = False := eq_false (by rw [hl0]; decide)
     have hft : varsT a.vars = bK a.vars a.vars.length := by rw [hl0]; rfl
     refine sr fun Z z => ?_
     simp [row_map, encD, encS, hk3, hb22, hkc]
     refine z _ ?_
     clear z Z
     refine cF (by simp [hk3, hb22, hkc]) ?_
     refine AT_skip ?_
     refine hK24 _ ?_
     refine AT_seq_draw Pt.mixed (by kernel_rfl) fun Z z => ?_
     simp [row_map, encD, encS, wFn, hk3, hb22, hkc]
     repeat refine sg ?_
     refine RVdn_call ((by have h := c_ref09x_Sig g rnd a.sig (by omega); simp only [encG] at h; exact h)) ?_
     simp [row_map, encD, encS, wFn, hk3, hb22, hkc]
     repeat refine sg ?_
     refine RVdn_call ((by have h := c_ref05x_Text g rnd a.body hrb (by omega); simp only [encE_def] at h; exact h)) ?_
     simp [row_map, encD, encS, wFn, hk3, hb22, hkc]
     repeat refine sg ?_
     refine z _ ?_
     clear z Z
     refine AT_ret ?_
     simp [row_map, encD, encS, Tryz.f30]
     all_goals first | (· simp [declT, blockT, hfr, hli, hft, lineT, wFn, wRet]) | (· simp [declT, blockT, hli]) | skip

theorem c_ref09x_Program (p : Pg) (hw : wtPg p ≤ 400000000) (hrm : rightE p.main = true) (hrd : ∀ d ∈ p.decls, d.kind = 1 ∨ d.kind = 2 ∨ (d.kind = 3 ∧ rightE d.body = true)) : Valid Tryz.prog (G0 g rnd) 12 [.agg (encPg p)] (.str (progT p)) := by
 have hw2 : wtDs p.decls + wtE p.main ≤ 400000000 := hw
 have hlD := wtDs_len p.decls
 have hel := txtE_wt p.main
 refine valid_of [] Tryz.func12 rfl (by kernel_rfl) ?_
 refine sr fun Z z => ?_
 simp [row_map, encPg, Tryz.f12]
 refine z _ ?_
 clear z Z
 refine sr fun Z z => ?_
 simp [row_map, encPg]
 refine z _ ?_
 clear z Z
 refine AT_seq_k fun K1 hK1 => ?_
 refine sr fun Z z => ?_
 simp [row_map, encPg]
 refine z _ ?_
 clear z Z
 refine AT_block ?_
 refine AT_loop_q [1,3,4] [1] (fun j s => ∃ k, k ≤ p.decls.length ∧ j = p.decls.length - k ∧ s = { n := 27, tm := [(1, .lp 1 0), (3, .v (.str (wHead ++ flT (p.decls.map declT) k)) none), (4, .v (.int .i64 k) none)], bx := [(1, encPg p)], tb := [], sh := [], hint := [] }) (p.decls.length) (by first | rfl | simp) ?_ ?_
 exact ⟨0, by simp [flT_nil, encPg, wHead]⟩
 rintro j s ⟨k, hk, rfl, rfl⟩ K2 hK2
 refine AT_seq_k fun K3 hK3 => ?_
 refine sr fun Z z => ?_
 simp [row_map, encPg]
 refine z _ ?_
 clear z Z
 refine AT_cond (g := none) rfl (fun hb9 => ?_) (fun hb9 => ?_)
 simp [row_map, encPg] at hb9
 refine AT_skip ?_
 refine hK3 _ ?_
 refine AT_seq_k fun K4 hK4 => ?_
 refine AT_block ?_
 refine AT_region_q fun Z z => ?_
 have hk9 : k < p.decls.length := by omega
 have hm9 := wtDs_mem (l := p.decls) (f := p.decls[k]) (by simp)
 have hx9 := declT_wt p.decls[k]
 have hu9 := decls_succ p.decls k hk9
 have hv9 := decls_len p.decls k
 simp [row_map, encPg, wHead, hb9]
 refine RVn_call (c_ref09x_Decl g rnd p.decls[k] (by omega) (hrd _ (by simp))) ?_
 simp [row_map, encPg, wHead, hb9]
 repeat refine sg ?_
 refine z _ ?_
 clear z Z
 refine hK4 _ ?_
 refine AT_region_q fun Z z => ?_
 simp [row_map, encPg, hb9]
 repeat refine sg ?_
 refine z _ ?_
 clear z Z
 refine hK2 _ (by first | rfl | simp) (p.decls.length - (k+1)) (by omega) ?_
 refine ⟨k+1, by omega, by omega, ?_⟩
 simp only [hu9]
 simp [encPg, wHead]
 simp [row_map, encPg] at hb9
 refine AT_exit ?_
 refine hK1 _ ?_
 refine sr fun Z z => ?_
 have hk9 : k = p.decls.length := by omega
 subst hk9
 have hv9 := decls_len p.decls p.decls.length
 have hda := decls_all p.decls
 rw [hda] at hv9 ⊢
 simp [row_map, encPg, wHead, hb9]
 repeat refine sg ?_
 refine RVn_call ((by have h := c_ref05x_Text g rnd p.main hrm (by omega); simp only [encE_def] at h; exact h)) ?_
 simp [row_map, encPg, wHead, hb9]
 repeat refine sg ?_
 refine z _ ?_
 clear z Z
 refine AT_ret ?_
 simp [row_map, encPg, Tryz.f12]
 simp [progT, blockT, lineT, wHead, wFm]

end Go.Proofs.YtepbmjchhcmcoaaGreatDoor
end

section
/- Contracts: the reference reads. -/
set_option linter.all false
set_option maxHeartbeats 1000000
set_option maxRecDepth 10000
namespace Go.Proofs.YtepbmjchhcmcoaaGreatDoor
open Go Go.Pv
variable (g : Nat → Option (List AV)) (rnd : Bool)

theorem row_hdK {L : List Tk} {p : Pl} (hk : p.k < L.length) : row (L.map encK) p.k = encK (hdK L p) := by
 rw [row_map _ _ _ hk, hdK, List.getD_eq_getElem?_getD, List.getElem?_eq_getElem hk]; rfl

theorem c_ref07x_Is (L : List Tk) (hn : L.length ≤ 1000000) (p : Pl) (hk : p.k < L.length) (s : Str) : Valid Tryz.prog (G0 g false) 35 [.agg (encP L p), .str s] (.bool (p.is L s)) := by
 have hrow : row (L.map encK) p.k = encK (hdK L p) := row_hdK hk
 refine valid_of [] Tryz.func35 rfl (by kernel_rfl) ?_
 refine sr fun Z z => ?_
 simp [encP, hrow, encK, Tryz.f35]
 refine z _ ?_
 clear z Z
 cases hb : p.bad
 ·
  cases h3 : ((hdK L p).1 != 3)
  ·
   refine sr fun Z z => ?_
   simp [encP, hrow, encK, hb, h3]
   repeat refine sg ?_
   refine z _ ?_
   clear z Z
   refine AT_ret ?_
   simp [encP, hrow, encK, Tryz.f35]
   all_goals first | (· simp [Pl.is, hb]) | (· simp [Pl.is, hb, h3])
  ·
   refine sr fun Z z => ?_
   simp [encP, hrow, encK, hb, h3]
   repeat refine sg ?_
   refine z _ ?_
   clear z Z
   refine AT_ret ?_
   simp [encP, hrow, encK, Tryz.f35]
   all_goals first | (· simp [Pl.is, hb]) | (· simp [Pl.is, hb, h3])
 ·
  refine sr fun Z z => ?_
  simp [encP, hrow, encK, hb]
  refine z _ ?_
  clear z Z
  refine AT_ret ?_
  simp [encP, hrow, encK, Tryz.f35]
  all_goals first | (· simp [Pl.is, hb]) | (· simp [Pl.is, hb, h3])

theorem c_ref07x_Must (L : List Tk) (hn : L.length ≤ 1000000) (p : Pl) (hk : p.k < L.length) (s : Str) : Valid Tryz.prog (G0 g false) 39 [.agg (encP L p), .str s] (.agg (encP L (p.must L s))) := by

 refine valid_of [] Tryz.func39 rfl (by kernel_rfl) ?_
 refine sr fun Z z => ?_
 simp [encP, Tryz.f39]
 refine z _ ?_
 clear z Z
 refine AT_seq_k fun K1 hK1 => ?_
 cases his : p.is L s
 ·
  refine sr fun Z z => ?_
  simp [encP, his]
  refine RVn_call (c_ref07x_Is g L hn p hk s) ?_
  simp [encP, his]
  refine z _ ?_
  clear z Z
  refine cF (by simp [his]) ?_
  refine AT_skip ?_
  refine hK1 _ ?_
  refine sr fun Z z => ?_
  simp [encP, his]
  refine z _ ?_
  clear z Z
  refine sr fun Z z => ?_
  simp [encP, his]
  refine z _ ?_
  clear z Z
  refine AT_ret ?_
  simp [encP, Tryz.f39]
  all_goals simp [Pl.must, his, encP, Pl.adv, Pl.fail]
 ·
  refine sr fun Z z => ?_
  simp [encP, his]
  refine RVn_call (c_ref07x_Is g L hn p hk s) ?_
  simp [encP, his]
  refine z _ ?_
  clear z Z
  refine cT (by simp [his]) ?_
  refine sr fun Z z => ?_
  simp [encP, his]
  repeat refine sg ?_
  refine z _ ?_
  clear z Z
  refine sr fun Z z => ?_
  simp [encP, his]
  refine z _ ?_
  clear z Z
  refine AT_ret ?_
  simp [encP, Tryz.f39]
  all_goals simp [Pl.must, his, encP, Pl.adv, Pl.fail]

theorem c_ref07x_Name (L : List Tk) (hn : L.length ≤ 1000000) (p : Pl) (hk : p.k < L.length) (hL : ∀ t ∈ L, t.2.1.length ≤ 1000000) : Valid Tryz.prog (G0 g false) 68 [.agg (encP L p)] (.tup [.agg (encP L (p.name L)), .str (p.nm L), .int .i64 (p.at_ L)]) := by
 have hrow : row (L.map encK) p.k = encK (hdK L p) := row_hdK hk
 have htl : (hdK L p).2.1.length ≤ 1000000 := by
   rw [hdK, List.getD_eq_getElem?_getD, List.getElem?_eq_getElem hk]; exact hL _ (by simp)
 refine valid_of [] Tryz.func68 rfl (by kernel_rfl) ?_
 refine sr fun Z z => ?_
 simp [encP, hrow, encK, Tryz.f68]
 refine z _ ?_
 clear z Z
 refine AT_seq_k fun K1 hK1 => ?_
 cases hb : p.bad
 ·
  cases h1 : ((hdK L p).1 == 1)
  ·
   have h1b : ((hdK L p).1 != 1) = true := by simp only [bne, h1]; rfl
   refine sr fun Z z => ?_
   simp [encP, hrow, encK, hb, h1, h1b]
   repeat refine sg ?_
   refine z _ ?_
   clear z Z
   refine cT (by simp [hb, h1, h1b]) ?_
   refine sr fun Z z => ?_
   simp [encP, hrow, encK, hb, h1, h1b]
   refine z _ ?_
   clear z Z
   refine sr fun Z z => ?_
   simp [encP, hrow, encK, hb, h1, h1b]
   refine z _ ?_
   clear z Z
   refine AT_ret ?_
   simp [encP, hrow, encK, Tryz.f68]
   all_goals first | (· simp [Pl.name, Pl.nm, Pl.at_, Pl.named, hb, encP, Pl.fail]) | (· simp [Pl.name, Pl.nm, Pl.at_, Pl.named, hb, h1, encP, Pl.fail]) | (· simp [Pl.name, Pl.nm, Pl.at_, Pl.named, hb, h1, h2, encP, Pl.fail, Pl.adv])
  ·
   have h1b : ((hdK L p).1 != 1) = false := by simp only [bne, h1]; rfl
   cases h2 : isName (hdK L p).2.1
   ·
    refine sr fun Z z => ?_
    simp [encP, hrow, encK, hb, h1, h1b, h2]
    repeat refine sg ?_
    refine RVn_call (c_ref01x_Is g false _ (by omega)) ?_
    simp [encP, hrow, encK, hb, h1, h1b, h2]
    repeat refine sg ?_
    refine z _ ?_
    clear z Z
    refine cT (by simp [hb, h1, h1b, h2]) ?_
    refine sr fun Z z => ?_
    simp [encP, hrow, encK, hb, h1, h1b, h2]
    refine z _ ?_
    clear z Z
    refine sr fun Z z => ?_
    simp [encP, hrow, encK, hb, h1, h1b, h2]
    refine z _ ?_
    clear z Z
    refine AT_ret ?_
    simp [encP, hrow, encK, Tryz.f68]
    all_goals first | (· simp [Pl.name, Pl.nm, Pl.at_, Pl.named, hb, encP, Pl.fail]) | (· simp [Pl.name, Pl.nm, Pl.at_, Pl.named, hb, h1, encP, Pl.fail]) | (· simp [Pl.name, Pl.nm, Pl.at_, Pl.named, hb, h1, h2, encP, Pl.fail, Pl.adv])
   ·
    refine sr fun Z z => ?_
    simp [encP, hrow, encK, hb, h1, h1b, h2]
    repeat refine sg ?_
    refine RVn_call (c_ref01x_Is g false _ (by omega)) ?_
    simp [encP, hrow, encK, hb, h1, h1b, h2]
    repeat refine sg ?_
    refine z _ ?_
    clear z Z
    refine cF (by simp [hb, h1, h1b, h2]) ?_
    refine AT_skip ?_
    refine hK1 _ ?_
    refine sr fun Z z => ?_
    simp [encP, hrow, encK, hb, h1, h1b, h2]
    repeat refine sg ?_
    refine z _ ?_
    clear z Z
    refine sr fun Z z => ?_
    simp [encP, hrow, encK, hb, h1, h1b, h2]
    repeat refine sg ?_
    refine z _ ?_
    clear z Z
    refine AT_seq_draw_m false [(1, 1), (2, 2), (5, 5), (42, 5), (44, 5)] Pt.mixed (by kernel_rfl) ⟨by simp [Im, okP, AS.get, look, TV.strip], fun h => by cases h⟩ fun Z z => ?_
    simp [encP, hrow, encK, hb, h1, h1b, h2]
    refine z _ ?_
    clear z Z
    refine AT_ret ?_
    simp [encP, hrow, encK, Tryz.f68]
    all_goals first | (· simp [Pl.name, Pl.nm, Pl.at_, Pl.named, hb, encP, Pl.fail]) | (· simp [Pl.name, Pl.nm, Pl.at_, Pl.named, hb, h1, encP, Pl.fail]) | (· simp [Pl.name, Pl.nm, Pl.at_, Pl.named, hb, h1, h2, encP, Pl.fail, Pl.adv])
 ·
  refine sr fun Z z => ?_
  simp [encP, hrow, encK, hb]
  refine z _ ?_
  clear z Z
  refine cT (by simp [hb]) ?_
  refine sr fun Z z => ?_
  simp [encP, hrow, encK, hb]
  refine z _ ?_
  clear z Z
  refine sr fun Z z => ?_
  simp [encP, hrow, encK, hb]
  refine z _ ?_
  clear z Z
  refine AT_ret ?_
  simp [encP, hrow, encK, Tryz.f68]
  all_goals first | (· simp [Pl.name, Pl.nm, Pl.at_, Pl.named, hb, encP, Pl.fail]) | (· simp [Pl.name, Pl.nm, Pl.at_, Pl.named, hb, h1, encP, Pl.fail]) | (· simp [Pl.name, Pl.nm, Pl.at_, Pl.named, hb, h1, h2, encP, Pl.fail, Pl.adv])

theorem c_ref07x_Finish (L : List Tk) (hn : L.length ≤ 1000000) (p : Pl) (hk : p.k < L.length) : Valid Tryz.prog (G0 g false) 40 [.agg (encP L p)] (.tup [.int .i64 (finR L p).1, .int .i64 (finR L p).2]) := by
 have hrow : row (L.map encK) p.k = encK (hdK L p) := row_hdK hk
 refine valid_of [] Tryz.func40 rfl (by kernel_rfl) ?_
 refine sr fun Z z => ?_
 simp [encP, hrow, encK, Tryz.f40]
 refine z _ ?_
 clear z Z
 refine AT_seq_k fun K1 hK1 => ?_
 cases hb : p.bad
 ·
  cases h3 : ((hdK L p).1 == 3)
  ·
   refine sr fun Z z => ?_
   simp [encP, hrow, encK, hb, h3]
   repeat refine sg ?_
   refine z _ ?_
   clear z Z
   refine cF (by simp [hb, h3]) ?_
   refine AT_skip ?_
   refine hK1 _ ?_
   refine AT_seq_draw Pt.mixed (by kernel_rfl) fun Z z => ?_
   simp [encP, hrow, encK, hb, h3]
   repeat refine sg ?_
   refine z _ ?_
   clear z Z
   refine AT_ret ?_
   simp [encP, hrow, encK, Tryz.f40]
   all_goals first | (· simp [finR, hb]) | (· simp [finR, hb, h3])
  ·
   refine sr fun Z z => ?_
   simp [encP, hrow, encK, hb, h3]
   repeat refine sg ?_
   refine z _ ?_
   clear z Z
   refine cT (by simp [hb, h3]) ?_
   refine sr fun Z z => ?_
   simp [encP, hrow, encK, hb, h3]
   refine z _ ?_
   clear z Z
   refine AT_ret ?_
   simp [encP, hrow, encK, Tryz.f40]
   all_goals first | (· simp [finR, hb]) | (· simp [finR, hb, h3])
 ·
  refine sr fun Z z => ?_
  simp [encP, hrow, encK, hb]
  refine z _ ?_
  clear z Z
  refine cF (by simp [hb]) ?_
  refine AT_skip ?_
  refine hK1 _ ?_
  refine AT_seq_draw Pt.mixed (by kernel_rfl) fun Z z => ?_
  simp [encP, hrow, encK, hb]
  repeat refine sg ?_
  refine z _ ?_
  clear z Z
  refine AT_ret ?_
  simp [encP, hrow, encK, Tryz.f40]
  all_goals first | (· simp [finR, hb]) | (· simp [finR, hb, h3])

end Go.Proofs.YtepbmjchhcmcoaaGreatDoor
end

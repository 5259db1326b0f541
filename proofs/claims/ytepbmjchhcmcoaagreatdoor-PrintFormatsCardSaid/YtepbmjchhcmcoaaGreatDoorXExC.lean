import Derived.Test.YtepbmjchhcmcoaaGreatDoorPt
import Derived.Test.YtepbmjchhcmcoaaGreatDoorPvPb
import Derived.Test.YtepbmjchhcmcoaaGreatDoorPvY
import Derived.Test.YtepbmjchhcmcoaaGreatDoorPvMb
import Derived.Test.YtepbmjchhcmcoaaGreatDoorXTyE
import Derived.Test.YtepbmjchhcmcoaaGreatDoorXLbJ
section
/- Contracts: expressions, counted and compared. -/
set_option linter.all false
set_option maxHeartbeats 1000000
set_option maxRecDepth 10000
namespace Go.Proofs.YtepbmjchhcmcoaaGreatDoor
open Go Go.Pv
variable (g : Nat → Option (List AV)) (rnd : Bool)

end Go.Proofs.YtepbmjchhcmcoaaGreatDoor
end

section
/- Contracts: expressions, shown and measured. -/
set_option linter.all false
set_option maxHeartbeats 1000000
set_option maxRecDepth 10000
namespace Go.Proofs.YtepbmjchhcmcoaaGreatDoor
open Go Go.Pv
variable (g : Nat → Option (List AV)) (rnd : Bool)

end Go.Proofs.YtepbmjchhcmcoaaGreatDoor
end

section
/- Contracts: texts of expressions. -/
set_option linter.all false
set_option maxHeartbeats 1000000
set_option maxRecDepth 10000
namespace Go.Proofs.YtepbmjchhcmcoaaGreatDoor
open Go Go.Pv
variable (g : Nat → Option (List AV)) (rnd : Bool)

theorem c_expr_join_api_Type (ts : List Ty) (hw : wts ts ≤ 1000000000) : Valid Tryz.prog (G0 g rnd) 56 [.slice (ts.map encTy), .func 43 []] (.str (Lib.join (txts ts) [44, 32])) := by
 have hlt := wts_len ts
 have hjl := txts_join_len ts
 refine valid_of [(5, 9)] Tryz.func56 rfl (by kernel_rfl) ?_
 refine sr fun Z z => ?_
 simp [row_map, Tryz.f56]
 refine z _ ?_
 clear z Z
 refine sr fun Z z => ?_
 simp [row_map]
 refine z _ ?_
 clear z Z
 refine AT_seq_k fun K1 hK1 => ?_
 refine sr fun Z z => ?_
 simp [row_map]
 refine z _ ?_
 clear z Z
 refine AT_block ?_
 refine AT_loop_q [1,5,8,9,10] [] (fun j s => ∃ k, k ≤ ts.length ∧ j = ts.length - k ∧ s = { n := 23, tm := [(1, .v (.func 43 []) none), (5, .v (.slice ((txts (ts.take k)).map encS)) (some (5, 9))), (8, .v (.slice (ts.map encTy)) none), (9, .v (.int .i64 ts.length) none), (10, .v (.int .i64 k) none)], bx := [], tb := [], sh := [], hint := [(5, 9)] }) (ts.length) (by first | rfl | simp) ?_ ?_
 exact ⟨0, by simp [txts]⟩
 rintro j s ⟨k, hk, rfl, rfl⟩ K2 hK2
 refine sr fun Z z => ?_
 simp [row_map]
 refine z _ ?_
 clear z Z
 refine AT_seq_k fun K3 hK3 => ?_
 refine AT_cond (g := none) rfl (fun hb11 => ?_) (fun hb11 => ?_)
 simp [row_map] at hb11
 refine AT_skip ?_
 refine hK3 _ ?_
 refine AT_seq_k fun K4 hK4 => ?_
 refine AT_block ?_
 refine sr fun Z z => ?_
 simp [row_map, hb11]
 refine z _ ?_
 clear z Z
 refine AT_region_q fun Z z => ?_
 have hm := wts_mem (l := ts) (t := ts[k]) (by simp)
 have htl := txts_len (ts.take k)
 have hlt2 : (ts.take k).length ≤ k := by simp; omega
 simp [row_map, hb11]
 refine RVn_call (c_types_Text g rnd ts[k] (by omega)) ?_
 simp [row_map, hb11]
 repeat refine sg ?_
 refine z _ ?_
 clear z Z
 refine hK4 _ ?_
 refine AT_region_q fun Z z => ?_
 simp [row_map, hb11]
 repeat refine sg ?_
 refine z _ ?_
 clear z Z
 refine hK2 _ (by first | rfl | simp) (ts.length - (k+1)) (by omega) ?_
 have hs := txts_take ts k hb11
 exact ⟨k+1, by omega, by omega, by simp [hs, encS]⟩
 simp [row_map] at hb11
 refine AT_exit ?_
 refine hK1 _ ?_
 refine sr fun Z z => ?_
 try rw [List.take_of_length_le hb11]
 simp [row_map, hb11]
 refine RVn_call (c_strings_Join g rnd (txts ts) [44, 32] (by rw [txts_len]; omega) (by omega)) ?_
 simp [row_map, hb11]
 refine z _ ?_
 clear z Z
 refine AT_ret ?_
 simp [row_map, Tryz.f56]

theorem c_expr_join_api_Expr (l : List Exp) (hw : wtEs l ≤ 1000000000) (hs : ∀ e ∈ l, Valid Tryz.prog (G0 g rnd) 23 [.agg (encE e)] (.str (txtE e))) : Valid Tryz.prog (G0 g rnd) 57 [.slice (l.map encE), .func 23 []] (.str (Lib.join (txtEs l) [44, 32])) := by
 have hlt := wtEs_len l
 have hjl := txtEs_join_len l
 refine valid_of [(5, 9)] Tryz.func57 rfl (by kernel_rfl) ?_
 refine sr fun Z z => ?_
 simp [row_map, Tryz.f57]
 refine z _ ?_
 clear z Z
 refine sr fun Z z => ?_
 simp [row_map]
 refine z _ ?_
 clear z Z
 refine AT_seq_k fun K1 hK1 => ?_
 refine sr fun Z z => ?_
 simp [row_map]
 refine z _ ?_
 clear z Z
 refine AT_block ?_
 refine AT_loop_q [1,5,8,9,10] [] (fun j s => ∃ k, k ≤ l.length ∧ j = l.length - k ∧ s = { n := 23, tm := [(1, .v (.func 23 []) none), (5, .v (.slice ((txtEs (l.take k)).map encS)) (some (5, 9))), (8, .v (.slice (l.map encE)) none), (9, .v (.int .i64 l.length) none), (10, .v (.int .i64 k) none)], bx := [], tb := [], sh := [], hint := [(5, 9)] }) (l.length) (by first | rfl | simp) ?_ ?_
 exact ⟨0, by simp [txtEs]⟩
 rintro j s ⟨k, hk, rfl, rfl⟩ K2 hK2
 refine sr fun Z z => ?_
 simp [row_map]
 refine z _ ?_
 clear z Z
 refine AT_seq_k fun K3 hK3 => ?_
 refine AT_cond (g := none) rfl (fun hb11 => ?_) (fun hb11 => ?_)
 simp [row_map] at hb11
 refine AT_skip ?_
 refine hK3 _ ?_
 refine AT_seq_k fun K4 hK4 => ?_
 refine AT_block ?_
 refine sr fun Z z => ?_
 simp [row_map, hb11]
 refine z _ ?_
 clear z Z
 refine AT_region_q fun Z z => ?_
 have htl := txtEs_len (l.take k)
 have hlt2 : (l.take k).length ≤ k := by simp; omega
 simp [row_map, hb11]
 refine RVn_call (hs l[k] (by simp)) ?_
 simp [row_map, hb11]
 repeat refine sg ?_
 refine z _ ?_
 clear z Z
 refine hK4 _ ?_
 refine AT_region_q fun Z z => ?_
 simp [row_map, hb11]
 repeat refine sg ?_
 refine z _ ?_
 clear z Z
 refine hK2 _ (by first | rfl | simp) (l.length - (k+1)) (by omega) ?_
 have hs := txtEs_take l k hb11
 exact ⟨k+1, by omega, by omega, by simp [hs, encS]⟩
 simp [row_map] at hb11
 refine AT_exit ?_
 refine hK1 _ ?_
 refine sr fun Z z => ?_
 try rw [List.take_of_length_le hb11]
 simp [row_map, hb11]
 refine RVn_call (c_strings_Join g rnd (txtEs l) [44, 32] (by rw [txtEs_len]; omega) (by omega)) ?_
 simp [row_map, hb11]
 refine z _ ?_
 clear z Z
 refine AT_ret ?_
 simp [row_map, Tryz.f57]

theorem c_expr_Text (e : Exp) : rightE e = true → wtE e ≤ 1000000000 → Valid Tryz.prog (G0 g rnd) 23 [.agg (encE e)] (.str (txtE e)) := by
 induction e using Exp.ind with
 | h kd n t ta l p ih =>
 intro hr hw
 have hw2 : n.length + 1 + wt t + wts ta + wtEs l ≤ 1000000000 := by simpa [wtE_mk] using hw
 have hln := wtEs_len l
 have hla := wts_len ta
 refine valid_of [] Tryz.func23 rfl (by kernel_rfl) ?_
 refine sr fun Z z => ?_
 simp [row_map, Tryz.f23]
 refine z _ ?_
 clear z Z
 refine AT_seq_k fun K1 hK1 => ?_
 rcases rightE_kind hr with ⟨hk, hl⟩ | ⟨hk, hl0⟩ | hk | ⟨hk45, hl1⟩
 have e1 : (kd == 1) = true := by rw [hk]; rfl
 have e2 : (kd == 2) = false := by rw [hk]; rfl
 have e3 : (kd == 3) = false := by rw [hk]; rfl
 have e4 : (kd == 4) = false := by rw [hk]; rfl
 have e5 : (kd == 5) = false := by rw [hk]; rfl
 refine sr fun Z z => ?_
 simp [row_map, e1, e2, e3, e4, e5]
 refine z _ ?_
 clear z Z
 refine AT_block ?_
 refine sr fun Z z => ?_
 simp [row_map, e1, e2, e3, e4, e5]
 refine z _ ?_
 clear z Z
 refine cF (by simp [e1, e2, e3, e4, e5]) ?_
 refine sr fun Z z => ?_
 simp [row_map, e1, e2, e3, e4, e5]
 refine z _ ?_
 clear z Z
 refine cF (by simp [e1, e2, e3, e4, e5]) ?_
 refine sr fun Z z => ?_
 simp [row_map, e1, e2, e3, e4, e5]
 refine z _ ?_
 clear z Z
 refine cF (by simp [e1, e2, e3, e4, e5]) ?_
 refine sr fun Z z => ?_
 simp [row_map, e1, e2, e3, e4, e5]
 refine z _ ?_
 clear z Z
 refine cF (by simp [e1, e2, e3, e4, e5]) ?_
 refine AT_skip ?_
 refine hK1 _ ?_
 refine sr fun Z z => ?_
 simp [row_map, e1, e2, e3, e4, e5]
 refine z _ ?_
 clear z Z
 refine AT_ret ?_
 simp [row_map, Tryz.f23]
 (· simp [txtE, hk, hl, txtEs])
 have e1 : (kd == 1) = false := by rw [hk]; rfl
 have e2 : (kd == 2) = true := by rw [hk]; rfl
 have e3 : (kd == 3) = false := by rw [hk]; rfl
 have e4 : (kd == 4) = false := by rw [hk]; rfl
 have e5 : (kd == 5) = false := by rw [hk]; rfl
 have h0 : 0 < l.length := List.length_pos_iff.2 hl0
 have hm0 := wtEs_mem (l := l) (e := l[0]) (by simp)
 have hxw := txtE_wt l[0]
 have hd1 : wtEs (l.drop 1) ≤ wtEs l := by
   conv => rhs; rw [← List.take_append_drop 1 l]
   rw [wtEs_app]; omega
 have hjr := txtEs_join_len (l.drop 1)
 have hta := txt_wt (.mk [] ta 0)
 have htb : wt (.mk [] ta 0) = 1 + wts ta := by simp [wt]
 have hcons : txtEs l = txtE l[0] :: txtEs (l.drop 1) := by
   cases l with
   | nil => exact absurd rfl hl0
   | cons x r => rfl
 refine sr fun Z z => ?_
 simp [row_map, e1, e2, e3, e4, e5, h0]
 refine z _ ?_
 clear z Z
 refine AT_block ?_
 refine sr fun Z z => ?_
 simp [row_map, e1, e2, e3, e4, e5, h0]
 refine z _ ?_
 clear z Z
 refine cT (by simp [e1, e2, e3, e4, e5, h0]) ?_
 refine sr fun Z z => ?_
 simp [row_map, e1, e2, e3, e4, e5, h0]
 refine z _ ?_
 clear z Z
 refine AT_seq_k fun K2 hK2 => ?_
 refine sr fun Z z => ?_
 simp [row_map, e1, e2, e3, e4, e5, h0]
 refine z _ ?_
 clear z Z
 refine AT_cond (g := none) rfl (fun hb11 => ?_) (fun hb11 => ?_)
 simp [row_map, e1, e2, e3, e4, e5, h0] at hb11
 refine AT_region_q fun Z z => ?_
 have hjt := txts_join_len ta
 simp [row_map, e1, e2, e3, e4, e5, h0]
 refine RVn_call (c_expr_join_api_Type g rnd ta (by omega)) ?_
 simp [row_map, e1, e2, e3, e4, e5, h0]
 repeat refine sgE ?_
 refine z _ ?_
 clear z Z
 refine hK2 _ ?_
 refine AT_seq_draw Pt.mixed (by kernel_rfl) fun Z z => ?_
 have hjt := txts_join_len ta
 simp [row_map, e1, e2, e3, e4, e5, h0]
 refine RVdn_call (ih l[0] (by simp) (rightE_kids hr l[0] (by simp)) (by omega)) ?_
 simp [row_map, e1, e2, e3, e4, e5, h0]
 repeat refine sgE ?_
 refine RVdn_call ((by have h := c_expr_join_api_Expr g rnd (l.drop 1) (by omega) (fun y hy => ih y (List.mem_of_mem_drop hy) (rightE_kids hr y (List.mem_of_mem_drop hy)) (by have := wtEs_mem hy; omega)); rw [List.map_drop, List.drop_one] at h; exact h)) ?_
 simp [row_map, e1, e2, e3, e4, e5, h0]
 repeat refine sgE ?_
 refine z _ ?_
 clear z Z
 refine AT_ret ?_
 simp [row_map, Tryz.f23]
 (· have hne : ta.isEmpty = false := by cases ta with | nil => exact absurd hb11 (by simp) | cons a b => rfl
    simp [txtE, hk, hcons, txt, hne])
 simp [row_map, e1, e2, e3, e4, e5, h0] at hb11
 refine AT_skip ?_
 refine hK2 _ ?_
 refine AT_seq_draw Pt.mixed (by kernel_rfl) fun Z z => ?_
 have hjt := txts_join_len ta
 simp [row_map, e1, e2, e3, e4, e5, h0]
 refine RVdn_call (ih l[0] (by simp) (rightE_kids hr l[0] (by simp)) (by omega)) ?_
 simp [row_map, e1, e2, e3, e4, e5, h0]
 repeat refine sgE ?_
 refine RVdn_call ((by have h := c_expr_join_api_Expr g rnd (l.drop 1) (by omega) (fun y hy => ih y (List.mem_of_mem_drop hy) (rightE_kids hr y (List.mem_of_mem_drop hy)) (by have := wtEs_mem hy; omega)); rw [List.map_drop, List.drop_one] at h; exact h)) ?_
 simp [row_map, e1, e2, e3, e4, e5, h0]
 repeat refine sgE ?_
 refine z _ ?_
 clear z Z
 refine AT_ret ?_
 simp [row_map, Tryz.f23]
 (· have hne : ta = [] := by cases ta with | nil => rfl | cons a b => exact absurd hb11 (by simp)
    simp [txtE, hk, hcons, txt, hne])
 have e1 : (kd == 1) = false := by rw [hk]; rfl
 have e2 : (kd == 2) = false := by rw [hk]; rfl
 have e3 : (kd == 3) = true := by rw [hk]; rfl
 have e4 : (kd == 4) = false := by rw [hk]; rfl
 have e5 : (kd == 5) = false := by rw [hk]; rfl
 have htw := txt_wt t
 have hjl := txtEs_join_len l
 refine sr fun Z z => ?_
 simp [row_map, e1, e2, e3, e4, e5]
 refine z _ ?_
 clear z Z
 refine AT_block ?_
 refine sr fun Z z => ?_
 simp [row_map, e1, e2, e3, e4, e5]
 refine z _ ?_
 clear z Z
 refine cF (by simp [e1, e2, e3, e4, e5]) ?_
 refine sr fun Z z => ?_
 simp [row_map, e1, e2, e3, e4, e5]
 refine z _ ?_
 clear z Z
 refine cT (by simp [e1, e2, e3, e4, e5]) ?_
 refine AT_seq_draw Pt.mixed (by kernel_rfl) fun Z z => ?_
 simp [row_map, e1, e2, e3, e4, e5]
 refine RVdn_call (c_types_Text g rnd t (by omega)) ?_
 simp [row_map, e1, e2, e3, e4, e5]
 repeat refine sgE ?_
 refine RVdn_call (c_expr_join_api_Expr g rnd l (by omega) (fun y hy => ih y hy (rightE_kids hr y hy) (by have := wtEs_mem hy; omega))) ?_
 simp [row_map, e1, e2, e3, e4, e5]
 repeat refine sgE ?_
 refine z _ ?_
 clear z Z
 refine AT_ret ?_
 simp [row_map, Tryz.f23]
 (· simp [txtE, hk])
 have h0 : 0 < l.length := by omega
 have hm0 := wtEs_mem (l := l) (e := l[0]) (by simp)
 have hxw := txtE_wt l[0]
 have htw := txt_wt t
 have hcons : txtEs l = [txtE l[0]] := by
   obtain ⟨x, rfl⟩ := List.length_eq_one_iff.1 hl1
   rfl
 rcases hk45 with hk | hk
 have e1 : (kd == 1) = false := by rw [hk]; rfl
 have e2 : (kd == 2) = false := by rw [hk]; rfl
 have e3 : (kd == 3) = false := by rw [hk]; rfl
 have e4 : (kd == 4) = true := by rw [hk]; rfl
 have e5 : (kd == 5) = false := by rw [hk]; rfl
 refine sr fun Z z => ?_
 simp [row_map, h0, e1, e2, e3, e4, e5]
 refine z _ ?_
 clear z Z
 refine AT_block ?_
 refine sr fun Z z => ?_
 simp [row_map, h0, e1, e2, e3, e4, e5]
 refine z _ ?_
 clear z Z
 refine cF (by simp [h0, e1, e2, e3, e4, e5]) ?_
 refine sr fun Z z => ?_
 simp [row_map, h0, e1, e2, e3, e4, e5]
 refine z _ ?_
 clear z Z
 refine cF (by simp [h0, e1, e2, e3, e4, e5]) ?_
 refine sr fun Z z => ?_
 simp [row_map, h0, e1, e2, e3, e4, e5]
 refine z _ ?_
 clear z Z
 refine cT (by simp [h0, e1, e2, e3, e4, e5]) ?_
 refine AT_seq_draw Pt.mixed (by kernel_rfl) fun Z z => ?_
 simp [row_map, h0, e1, e2, e3, e4, e5]
 refine RVdn_call (ih l[0] (by simp) (rightE_kids hr l[0] (by simp)) (by omega)) ?_
 simp [row_map, h0, e1, e2, e3, e4, e5]
 repeat refine sgE ?_
 refine z _ ?_
 clear z Z
 refine AT_ret ?_
 simp [row_map, Tryz.f23]
 (· simp [txtE, hk, hcons])
 have e1 : (kd == 1) = false := by rw [hk]; rfl
 have e2 : (kd == 2) = false := by rw [hk]; rfl
 have e3 : (kd == 3) = false := by rw [hk]; rfl
 have e4 : (kd == 4) = false := by rw [hk]; rfl
 have e5 : (kd == 5) = true := by rw [hk]; rfl
 refine sr fun Z z => ?_
 simp [row_map, h0, e1, e2, e3, e4, e5]
 refine z _ ?_
 clear z Z
 refine AT_block ?_
 refine sr fun Z z => ?_
 simp [row_map, h0, e1, e2, e3, e4, e5]
 refine z _ ?_
 clear z Z
 refine cF (by simp [h0, e1, e2, e3, e4, e5]) ?_
 refine sr fun Z z => ?_
 simp [row_map, h0, e1, e2, e3, e4, e5]
 refine z _ ?_
 clear z Z
 refine cF (by simp [h0, e1, e2, e3, e4, e5]) ?_
 refine sr fun Z z => ?_
 simp [row_map, h0, e1, e2, e3, e4, e5]
 refine z _ ?_
 clear z Z
 refine cF (by simp [h0, e1, e2, e3, e4, e5]) ?_
 refine sr fun Z z => ?_
 simp [row_map, h0, e1, e2, e3, e4, e5]
 refine z _ ?_
 clear z Z
 refine cT (by simp [h0, e1, e2, e3, e4, e5]) ?_
 refine AT_seq_draw Pt.mixed (by kernel_rfl) fun Z z => ?_
 simp [row_map, h0, e1, e2, e3, e4, e5]
 refine RVdn_call (ih l[0] (by simp) (rightE_kids hr l[0] (by simp)) (by omega)) ?_
 simp [row_map, h0, e1, e2, e3, e4, e5]
 repeat refine sgE ?_
 refine RVdn_call (c_types_Text g rnd t (by omega)) ?_
 simp [row_map, h0, e1, e2, e3, e4, e5]
 repeat refine sgE ?_
 refine z _ ?_
 clear z Z
 refine AT_ret ?_
 simp [row_map, Tryz.f23]
 (· simp [txtE, hk, hcons])

theorem c_ref05x_Text (e : Exp) : rightE e = true → wtE e ≤ 1000000000 → Valid Tryz.prog (G0 g rnd) 31 [.agg (encE e)] (.str (txtE e)) := by
 induction e using Exp.ind with
 | h kd n t ta l p ih =>
 intro hr hw
 have hw2 : n.length + 1 + wt t + wts ta + wtEs l ≤ 1000000000 := by simpa [wtE_mk] using hw
 have hln := wtEs_len l
 have hla := wts_len ta
 refine valid_of [] Tryz.func31 rfl (by kernel_rfl) ?_
 refine sr fun Z z => ?_
 simp [row_map, Tryz.f31]
 refine z _ ?_
 clear z Z
 refine AT_seq_k fun K1 hK1 => ?_
 rcases rightE_kind hr with ⟨hk, hl⟩ | ⟨hk, hl0⟩ | hk | ⟨hk45, hl1⟩
 have e1 : (kd == 1) = true := by rw [hk]; rfl
 have e2 : (kd == 2) = false := by rw [hk]; rfl
 have e3 : (kd == 3) = false := by rw [hk]; rfl
 have e4 : (kd == 4) = false := by rw [hk]; rfl
 have e5 : (kd == 5) = false := by rw [hk]; rfl
 refine sr fun Z z => ?_
 simp [row_map, e1, e2, e3, e4, e5]
 refine z _ ?_
 clear z Z
 refine cT (by simp [e1, e2, e3, e4, e5]) ?_
 refine sr fun Z z => ?_
 simp [row_map, e1, e2, e3, e4, e5]
 refine z _ ?_
 clear z Z
 refine AT_ret ?_
 simp [row_map, Tryz.f31]
 (· simp [txtE, hk, hl, txtEs])
 have e1 : (kd == 1) = false := by rw [hk]; rfl
 have e2 : (kd == 2) = true := by rw [hk]; rfl
 have e3 : (kd == 3) = false := by rw [hk]; rfl
 have e4 : (kd == 4) = false := by rw [hk]; rfl
 have e5 : (kd == 5) = false := by rw [hk]; rfl
 have h0 : 0 < l.length := List.length_pos_iff.2 hl0
 have hm0 := wtEs_mem (l := l) (e := l[0]) (by simp)
 have hxw := txtE_wt l[0]
 have hd1 : wtEs (l.drop 1) ≤ wtEs l := by
   conv => rhs; rw [← List.take_append_drop 1 l]
   rw [wtEs_app]; omega
 have hjr := txtEs_join_len (l.drop 1)
 have hta := txt_wt (.mk [] ta 0)
 have htb : wt (.mk [] ta 0) = 1 + wts ta := by simp [wt]
 have hcons : txtEs l = txtE l[0] :: txtEs (l.drop 1) := by
   cases l with
   | nil => exact absurd rfl hl0
   | cons x r => rfl
 obtain ⟨s0, hs0⟩ : ∃ s0, s0 = txtE l[0] ++ [46] ++ n ++ txt (.mk [] ta 0) ++ [40] := ⟨_, rfl⟩
 obtain ⟨f, hf⟩ : ∃ f : Nat, f = 1 := ⟨_, rfl⟩
 have hsl : s0.length ≤ 8 * wtE l[0] + n.length + 4 + 4 * wts ta := by rw [hs0]; simp only [List.length_append, List.length_cons, List.length_nil]; omega
 refine sr fun Z z => ?_
 simp [row_map, e1, e2, e3, e4, e5, h0]
 refine z _ ?_
 clear z Z
 refine cF (by simp [e1, e2, e3, e4, e5, h0]) ?_
 refine AT_skip ?_
 refine hK1 _ ?_
 refine sr fun Z z => ?_
 simp [row_map, e1, e2, e3, e4, e5, h0]
 refine z _ ?_
 clear z Z
 refine sr fun Z z => ?_
 simp [row_map, e1, e2, e3, e4, e5, h0]
 refine z _ ?_
 clear z Z
 refine AT_seq_k fun K2 hK2 => ?_
 refine sr fun Z z => ?_
 simp [row_map, e1, e2, e3, e4, e5, h0]
 refine z _ ?_
 clear z Z
 refine cF (by simp [e1, e2, e3, e4, e5, h0]) ?_
 refine AT_draw_q Pt.mixed (by kernel_rfl) fun Z z => ?_
 simp [row_map, e1, e2, e3, e4, e5, h0]
 refine RVdn_call (ih l[0] (by simp) (rightE_kids hr l[0] (by simp)) (by omega)) ?_
 simp [row_map, e1, e2, e3, e4, e5, h0]
 repeat refine sgE ?_
 refine z _ ?_
 clear z Z
 refine hK2 _ ?_
 refine AT_seq_k fun K3 hK3 => ?_
 refine sr fun Z z => ?_
 simp [row_map, e1, e2, e3, e4, e5, h0]
 refine z _ ?_
 clear z Z
 refine cF (by simp [e1, e2, e3, e4, e5, h0]) ?_
 refine AT_skip ?_
 refine hK3 _ ?_
 refine AT_seq_k fun K4 hK4 => ?_
 refine sr fun Z z => ?_
 simp [row_map, e1, e2, e3, e4, e5, h0]
 refine z _ ?_
 clear z Z
 refine cF (by simp [e1, e2, e3, e4, e5, h0]) ?_
 refine AT_skip ?_
 refine hK4 _ ?_
 refine AT_seq_k fun K5 hK5 => ?_
 refine sr fun Z z => ?_
 simp [row_map, e1, e2, e3, e4, e5, h0]
 refine z _ ?_
 clear z Z
 refine cT (by simp [e1, e2, e3, e4, e5, h0]) ?_
 refine sr fun Z z => ?_
 simp [row_map, e1, e2, e3, e4, e5, h0]
 refine RVn_call ((by have h := c_ref04x_Text g rnd (.mk [] ta 0) (by omega); rw [encTy_mk] at h; exact h : Valid Tryz.prog (G0 g rnd) 64 [.agg [.str [], .slice (ta.map encTy), .int .i64 0]] (.str (txt (.mk [] ta 0))))) ?_
 simp [row_map, e1, e2, e3, e4, e5, h0]
 refine z _ ?_
 clear z Z
 refine AT_region_q fun Z z => ?_
 simp [row_map, e1, e2, e3, e4, e5, h0]
 repeat refine sgE ?_
 refine z _ ?_
 clear z Z
 refine hK5 _ ?_
 refine AT_seq_k fun K6 hK6 => ?_
 refine sr fun Z z => ?_
 simp [row_map, e1, e2, e3, e4, e5, h0]
 refine z _ ?_
 clear z Z
 refine AT_block ?_
 refine AT_loop_q [1,3,4,6] [1] (fun j s => ∃ i, (f ≤ i ∧ (i ≤ l.length ∨ i = f)) ∧ j = l.length - i ∧ s = { n := 81, tm := [(1, .lp 1 0), (3, .v (.str (txtEK s0 (l.drop f) (i - f))) none), (4, .v (.int .i64 (f : Nat)) none), (6, .v (.int .i64 (i : Nat)) none)], bx := [(1, encE (.mk kd n t ta l p))], tb := [], sh := [], hint := [] }) (l.length - f) (by first | rfl | simp) ?_ ?_
 exact ⟨f, by omega, by omega, by simp [hf, hs0, txtEK, txtEs, Lib.join_nil]⟩
 rintro j s ⟨i, ⟨hi1, hi2⟩, rfl, rfl⟩ K7 hK7
 refine AT_seq_k fun K8 hK8 => ?_
 refine sr fun Z z => ?_
 simp [row_map, e1, e2, e3, e4, e5, h0]
 refine z _ ?_
 clear z Z
 refine AT_cond (g := none) rfl (fun hb58 => ?_) (fun hb58 => ?_)
 simp [row_map, e1, e2, e3, e4, e5, h0] at hb58
 refine AT_skip ?_
 refine hK8 _ ?_
 refine AT_seq_k fun K9 hK9 => ?_
 refine AT_block ?_
 refine AT_seq_k fun K10 hK10 => ?_
 refine sr fun Z z => ?_
 simp [row_map, e1, e2, e3, e4, e5, h0, hb58]
 refine z _ ?_
 clear z Z
 refine AT_cond (g := none) rfl (fun hb63 => ?_) (fun hb63 => ?_)
 simp [row_map, e1, e2, e3, e4, e5, h0, hb58] at hb63
 refine AT_region_q fun Z z => ?_
 have hek := txtEK_drop_len s0 l f (i - f)
 simp [row_map, e1, e2, e3, e4, e5, h0, hb58]
 repeat refine sgE ?_
 refine z _ ?_
 clear z Z
 refine hK10 _ ?_
 refine AT_region_q fun Z z => ?_
 have hek := txtEK_drop_len s0 l f (i - f)
 have hmi := wtEs_mem (l := l) (e := l[i]) (by simp)
 have hxi := txtE_wt l[i]
 simp [row_map, e1, e2, e3, e4, e5, h0, hb58]
 refine RVn_call (ih l[i] (by simp) (rightE_kids hr _ (by simp)) (by omega)) ?_
 simp [row_map, e1, e2, e3, e4, e5, h0, hb58]
 repeat refine sgE ?_
 refine z _ ?_
 clear z Z
 refine hK9 _ ?_
 refine AT_region_q fun Z z => ?_
 simp [row_map, e1, e2, e3, e4, e5, h0, hb58]
 repeat refine sgE ?_
 refine z _ ?_
 clear z Z
 refine hK7 _ (by first | rfl | simp) (l.length - (i+1)) (by omega) ?_
 have hat := txtEK_at s0 l f i hi1 hb58
 (rw [if_pos (by omega)] at hat
  exact ⟨i+1, by omega, by omega, by simp [hat]⟩)
 simp [row_map, e1, e2, e3, e4, e5, h0, hb58] at hb63
 refine AT_skip ?_
 refine hK10 _ ?_
 refine AT_region_q fun Z z => ?_
 have hek := txtEK_drop_len s0 l f (i - f)
 have hmi := wtEs_mem (l := l) (e := l[i]) (by simp)
 have hxi := txtE_wt l[i]
 simp [row_map, e1, e2, e3, e4, e5, h0, hb58]
 refine RVn_call (ih l[i] (by simp) (rightE_kids hr _ (by simp)) (by omega)) ?_
 simp [row_map, e1, e2, e3, e4, e5, h0, hb58]
 repeat refine sgE ?_
 refine z _ ?_
 clear z Z
 refine hK9 _ ?_
 refine AT_region_q fun Z z => ?_
 simp [row_map, e1, e2, e3, e4, e5, h0, hb58]
 repeat refine sgE ?_
 refine z _ ?_
 clear z Z
 refine hK7 _ (by first | rfl | simp) (l.length - (i+1)) (by omega) ?_
 have hat := txtEK_at s0 l f i hi1 hb58
 (rw [if_neg (by omega)] at hat
  exact ⟨i+1, by omega, by omega, by simp [hat]⟩)
 simp [row_map, e1, e2, e3, e4, e5, h0] at hb58
 refine AT_exit ?_
 refine hK6 _ ?_
 refine AT_seq_k fun K11 hK11 => ?_
 refine sr fun Z z => ?_
 simp [row_map, e1, e2, e3, e4, e5, h0, hb58]
 refine z _ ?_
 clear z Z
 refine cF (by simp [e1, e2, e3, e4, e5, h0, hb58]) ?_
 refine AT_skip ?_
 refine hK11 _ ?_
 refine sr fun Z z => ?_
 have hek := txtEK_drop_len s0 l f (i - f)
 simp [row_map, e1, e2, e3, e4, e5, h0, hb58]
 repeat refine sgE ?_
 refine z _ ?_
 clear z Z
 refine AT_ret ?_
 simp [row_map, Tryz.f31]
 (· rw [txtEK_all s0 l f i hb58, hs0, hf]; simp [txtE, hk, hcons])
 have e1 : (kd == 1) = false := by rw [hk]; rfl
 have e2 : (kd == 2) = false := by rw [hk]; rfl
 have e3 : (kd == 3) = true := by rw [hk]; rfl
 have e4 : (kd == 4) = false := by rw [hk]; rfl
 have e5 : (kd == 5) = false := by rw [hk]; rfl
 have htw := txt_wt t
 have hjl := txtEs_join_len l
 obtain ⟨s0, hs0⟩ : ∃ s0, s0 = txt t ++ [123] := ⟨_, rfl⟩
 obtain ⟨f, hf⟩ : ∃ f : Nat, f = 0 := ⟨_, rfl⟩
 have hsl : s0.length ≤ 4 * wt t + 4 := by rw [hs0]; simp only [List.length_append, List.length_cons, List.length_nil]; omega
 refine sr fun Z z => ?_
 simp [row_map, e1, e2, e3, e4, e5]
 refine z _ ?_
 clear z Z
 refine cF (by simp [e1, e2, e3, e4, e5]) ?_
 refine AT_skip ?_
 refine hK1 _ ?_
 refine sr fun Z z => ?_
 simp [row_map, e1, e2, e3, e4, e5]
 refine z _ ?_
 clear z Z
 refine sr fun Z z => ?_
 simp [row_map, e1, e2, e3, e4, e5]
 refine z _ ?_
 clear z Z
 refine AT_seq_k fun K12 hK12 => ?_
 refine sr fun Z z => ?_
 simp [row_map, e1, e2, e3, e4, e5]
 refine z _ ?_
 clear z Z
 refine cT (by simp [e1, e2, e3, e4, e5]) ?_
 refine sr fun Z z => ?_
 simp [row_map, e1, e2, e3, e4, e5]
 refine RVn_call (c_ref04x_Text g rnd t (by omega)) ?_
 simp [row_map, e1, e2, e3, e4, e5]
 repeat refine sgE ?_
 refine z _ ?_
 clear z Z
 refine AT_region_q fun Z z => ?_
 simp [row_map, e1, e2, e3, e4, e5]
 refine z _ ?_
 clear z Z
 refine hK12 _ ?_
 refine AT_seq_k fun K13 hK13 => ?_
 refine sr fun Z z => ?_
 simp [row_map, e1, e2, e3, e4, e5]
 refine z _ ?_
 clear z Z
 refine cF (by simp [e1, e2, e3, e4, e5]) ?_
 refine AT_skip ?_
 refine hK13 _ ?_
 refine AT_seq_k fun K14 hK14 => ?_
 refine sr fun Z z => ?_
 simp [row_map, e1, e2, e3, e4, e5]
 refine z _ ?_
 clear z Z
 refine cF (by simp [e1, e2, e3, e4, e5]) ?_
 refine AT_skip ?_
 refine hK14 _ ?_
 refine AT_seq_k fun K15 hK15 => ?_
 refine sr fun Z z => ?_
 simp [row_map, e1, e2, e3, e4, e5]
 refine z _ ?_
 clear z Z
 refine cF (by simp [e1, e2, e3, e4, e5]) ?_
 refine AT_skip ?_
 refine hK15 _ ?_
 refine AT_seq_k fun K16 hK16 => ?_
 refine sr fun Z z => ?_
 simp [row_map, e1, e2, e3, e4, e5]
 refine z _ ?_
 clear z Z
 refine AT_block ?_
 refine AT_loop_q [1,3,4,6] [1] (fun j s => ∃ i, (f ≤ i ∧ (i ≤ l.length ∨ i = f)) ∧ j = l.length - i ∧ s = { n := 81, tm := [(1, .lp 1 0), (3, .v (.str (txtEK s0 (l.drop f) (i - f))) none), (4, .v (.int .i64 (f : Nat)) none), (6, .v (.int .i64 (i : Nat)) none)], bx := [(1, encE (.mk kd n t ta l p))], tb := [], sh := [], hint := [] }) (l.length - f) (by first | rfl | simp) ?_ ?_
 exact ⟨f, by omega, by omega, by simp [hf, hs0, txtEK, txtEs, Lib.join_nil]⟩
 rintro j s ⟨i, ⟨hi1, hi2⟩, rfl, rfl⟩ K17 hK17
 refine AT_seq_k fun K18 hK18 => ?_
 refine sr fun Z z => ?_
 simp [row_map, e1, e2, e3, e4, e5]
 refine z _ ?_
 clear z Z
 refine AT_cond (g := none) rfl (fun hb58 => ?_) (fun hb58 => ?_)
 simp [row_map, e1, e2, e3, e4, e5] at hb58
 refine AT_skip ?_
 refine hK18 _ ?_
 refine AT_seq_k fun K19 hK19 => ?_
 refine AT_block ?_
 refine AT_seq_k fun K20 hK20 => ?_
 refine sr fun Z z => ?_
 simp [row_map, e1, e2, e3, e4, e5, hb58]
 refine z _ ?_
 clear z Z
 refine AT_cond (g := none) rfl (fun hb63 => ?_) (fun hb63 => ?_)
 simp [row_map, e1, e2, e3, e4, e5, hb58] at hb63
 refine AT_region_q fun Z z => ?_
 have hek := txtEK_drop_len s0 l f (i - f)
 simp [row_map, e1, e2, e3, e4, e5, hb58]
 repeat refine sgE ?_
 refine z _ ?_
 clear z Z
 refine hK20 _ ?_
 refine AT_region_q fun Z z => ?_
 have hek := txtEK_drop_len s0 l f (i - f)
 have hmi := wtEs_mem (l := l) (e := l[i]) (by simp)
 have hxi := txtE_wt l[i]
 simp [row_map, e1, e2, e3, e4, e5, hb58]
 refine RVn_call (ih l[i] (by simp) (rightE_kids hr _ (by simp)) (by omega)) ?_
 simp [row_map, e1, e2, e3, e4, e5, hb58]
 repeat refine sgE ?_
 refine z _ ?_
 clear z Z
 refine hK19 _ ?_
 refine AT_region_q fun Z z => ?_
 simp [row_map, e1, e2, e3, e4, e5, hb58]
 repeat refine sgE ?_
 refine z _ ?_
 clear z Z
 refine hK17 _ (by first | rfl | simp) (l.length - (i+1)) (by omega) ?_
 have hat := txtEK_at s0 l f i hi1 hb58
 (rw [if_pos (by omega)] at hat
  exact ⟨i+1, by omega, by omega, by simp [hat]⟩)
 simp [row_map, e1, e2, e3, e4, e5, hb58] at hb63
 refine AT_skip ?_
 refine hK20 _ ?_
 refine AT_region_q fun Z z => ?_
 have hek := txtEK_drop_len s0 l f (i - f)
 have hmi := wtEs_mem (l := l) (e := l[i]) (by simp)
 have hxi := txtE_wt l[i]
 simp [row_map, e1, e2, e3, e4, e5, hb58]
 refine RVn_call (ih l[i] (by simp) (rightE_kids hr _ (by simp)) (by omega)) ?_
 simp [row_map, e1, e2, e3, e4, e5, hb58]
 repeat refine sgE ?_
 refine z _ ?_
 clear z Z
 refine hK19 _ ?_
 refine AT_region_q fun Z z => ?_
 simp [row_map, e1, e2, e3, e4, e5, hb58]
 repeat refine sgE ?_
 refine z _ ?_
 clear z Z
 refine hK17 _ (by first | rfl | simp) (l.length - (i+1)) (by omega) ?_
 have hat := txtEK_at s0 l f i hi1 hb58
 (rw [if_neg (by omega)] at hat
  exact ⟨i+1, by omega, by omega, by simp [hat]⟩)
 simp [row_map, e1, e2, e3, e4, e5] at hb58
 refine AT_exit ?_
 refine hK16 _ ?_
 refine AT_seq_k fun K21 hK21 => ?_
 refine sr fun Z z => ?_
 simp [row_map, e1, e2, e3, e4, e5, hb58]
 refine z _ ?_
 clear z Z
 refine cT (by simp [e1, e2, e3, e4, e5, hb58]) ?_
 refine sr fun Z z => ?_
 have hek := txtEK_drop_len s0 l f (i - f)
 simp [row_map, e1, e2, e3, e4, e5, hb58]
 repeat refine sgE ?_
 refine z _ ?_
 clear z Z
 refine AT_ret ?_
 simp [row_map, Tryz.f31]
 (· rw [txtEK_all s0 l f i hb58, hs0, hf]; simp [txtE, hk])
 have h0 : 0 < l.length := by omega
 have hm0 := wtEs_mem (l := l) (e := l[0]) (by simp)
 have hxw := txtE_wt l[0]
 have htw := txt_wt t
 have hcons : txtEs l = [txtE l[0]] := by
   obtain ⟨x, rfl⟩ := List.length_eq_one_iff.1 hl1
   rfl
 rcases hk45 with hk | hk
 have e1 : (kd == 1) = false := by rw [hk]; rfl
 have e2 : (kd == 2) = false := by rw [hk]; rfl
 have e3 : (kd == 3) = false := by rw [hk]; rfl
 have e4 : (kd == 4) = true := by rw [hk]; rfl
 have e5 : (kd == 5) = false := by rw [hk]; rfl
 refine sr fun Z z => ?_
 simp [row_map, h0, e1, e2, e3, e4, e5]
 refine z _ ?_
 clear z Z
 refine cF (by simp [h0, e1, e2, e3, e4, e5]) ?_
 refine AT_skip ?_
 refine hK1 _ ?_
 refine sr fun Z z => ?_
 simp [row_map, h0, e1, e2, e3, e4, e5]
 refine z _ ?_
 clear z Z
 refine sr fun Z z => ?_
 simp [row_map, h0, e1, e2, e3, e4, e5]
 refine z _ ?_
 clear z Z
 refine AT_seq_k fun K22 hK22 => ?_
 refine sr fun Z z => ?_
 simp [row_map, h0, e1, e2, e3, e4, e5]
 refine z _ ?_
 clear z Z
 refine cF (by simp [h0, e1, e2, e3, e4, e5]) ?_
 refine AT_draw_q Pt.mixed (by kernel_rfl) fun Z z => ?_
 simp [row_map, h0, e1, e2, e3, e4, e5]
 refine RVdn_call (ih l[0] (by simp) (rightE_kids hr l[0] (by simp)) (by omega)) ?_
 simp [row_map, h0, e1, e2, e3, e4, e5]
 repeat refine sgE ?_
 refine z _ ?_
 clear z Z
 refine hK22 _ ?_
 refine AT_seq_k fun K23 hK23 => ?_
 refine sr fun Z z => ?_
 simp [row_map, h0, e1, e2, e3, e4, e5]
 refine z _ ?_
 clear z Z
 refine cF (by simp [h0, e1, e2, e3, e4, e5]) ?_
 refine AT_skip ?_
 refine hK23 _ ?_
 refine AT_seq_k fun K24 hK24 => ?_
 refine sr fun Z z => ?_
 simp [row_map, h0, e1, e2, e3, e4, e5]
 refine z _ ?_
 clear z Z
 refine cT (by simp [h0, e1, e2, e3, e4, e5]) ?_
 refine sr fun Z z => ?_
 simp [row_map, h0, e1, e2, e3, e4, e5]
 refine z _ ?_
 clear z Z
 refine AT_ret ?_
 simp [row_map, Tryz.f31]
 (· simp [txtE, hk, hcons])
 have e1 : (kd == 1) = false := by rw [hk]; rfl
 have e2 : (kd == 2) = false := by rw [hk]; rfl
 have e3 : (kd == 3) = false := by rw [hk]; rfl
 have e4 : (kd == 4) = false := by rw [hk]; rfl
 have e5 : (kd == 5) = true := by rw [hk]; rfl
 refine sr fun Z z => ?_
 simp [row_map, h0, e1, e2, e3, e4, e5]
 refine z _ ?_
 clear z Z
 refine cF (by simp [h0, e1, e2, e3, e4, e5]) ?_
 refine AT_skip ?_
 refine hK1 _ ?_
 refine sr fun Z z => ?_
 simp [row_map, h0, e1, e2, e3, e4, e5]
 refine z _ ?_
 clear z Z
 refine sr fun Z z => ?_
 simp [row_map, h0, e1, e2, e3, e4, e5]
 refine z _ ?_
 clear z Z
 refine AT_seq_k fun K25 hK25 => ?_
 refine sr fun Z z => ?_
 simp [row_map, h0, e1, e2, e3, e4, e5]
 refine z _ ?_
 clear z Z
 refine cF (by simp [h0, e1, e2, e3, e4, e5]) ?_
 refine AT_draw_q Pt.mixed (by kernel_rfl) fun Z z => ?_
 simp [row_map, h0, e1, e2, e3, e4, e5]
 refine RVdn_call (ih l[0] (by simp) (rightE_kids hr l[0] (by simp)) (by omega)) ?_
 simp [row_map, h0, e1, e2, e3, e4, e5]
 repeat refine sgE ?_
 refine z _ ?_
 clear z Z
 refine hK25 _ ?_
 refine AT_seq_k fun K26 hK26 => ?_
 refine sr fun Z z => ?_
 simp [row_map, h0, e1, e2, e3, e4, e5]
 refine z _ ?_
 clear z Z
 refine cT (by simp [h0, e1, e2, e3, e4, e5]) ?_
 refine sr fun Z z => ?_
 simp [row_map, h0, e1, e2, e3, e4, e5]
 repeat refine sgE ?_
 refine RVn_call (c_ref04x_Text g rnd t (by omega)) ?_
 simp [row_map, h0, e1, e2, e3, e4, e5]
 repeat refine sgE ?_
 refine z _ ?_
 clear z Z
 refine AT_ret ?_
 simp [row_map, Tryz.f31]
 (· have hnn := rightE_name5 hr hk; simp [txtE, hk, hcons, hnn])

end Go.Proofs.YtepbmjchhcmcoaaGreatDoor
end

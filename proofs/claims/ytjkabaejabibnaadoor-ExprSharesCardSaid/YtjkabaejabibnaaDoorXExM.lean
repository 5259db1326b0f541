import Derived.Test.YtjkabaejabibnaaDoorPt
import Derived.Test.YtjkabaejabibnaaDoorPvPb
import Derived.Test.YtjkabaejabibnaaDoorPvY
import Derived.Test.YtjkabaejabibnaaDoorXRpA
import Derived.Test.YtjkabaejabibnaaDoorXTyF
import Derived.Test.YtjkabaejabibnaaDoorXExI
import Derived.Test.YtjkabaejabibnaaDoorXExZ
import Derived.Test.YtjkabaejabibnaaDoorXSeA
import Derived.Test.YtjkabaejabibnaaDoorPvMe
section
/- Contracts: texts of expressions. -/
set_option linter.all false
set_option maxHeartbeats 1000000
set_option maxRecDepth 10000
namespace Go.Proofs.YtjkabaejabibnaaDoor
open Go Go.Pv
variable (g : Nat → Option (List AV)) (rnd : Bool)

theorem c_expr_join_api_Type (ts : List Ty) (hw : wts ts ≤ 1000000000) : Valid Tryd.prog (G0 g rnd) 40 [.slice (ts.map encTy), .func 41 []] (.str (Lib.join (txts ts) [44, 32])) := by
 have hlt := wts_len ts
 have hjl := txts_join_len ts
 refine valid_of [(5, 9)] Tryd.func40 rfl (by kernel_rfl) ?_
 refine sr fun Z z => ?_
 simp [row_map, Tryd.f40]
 refine z _ ?_
 clear z Z
 refine sr fun Z z => ?_
 simp [row_map]
 refine z _ ?_
 clear z Z
 refine AT_seq_k fun K1 hK1 => ?_
 refine sr fun Z z => ?_
 simp [row_map]
 refine z _ ?_
 clear z Z
 refine AT_block ?_
 refine AT_loop_q [1,5,8,9,10] [] (fun j s => ∃ k, k ≤ ts.length ∧ j = ts.length - k ∧ s = { n := 23, tm := [(1, .v (.func 41 []) none), (5, .v (.slice ((txts (ts.take k)).map encS)) (some (5, 9))), (8, .v (.slice (ts.map encTy)) none), (9, .v (.int .i64 ts.length) none), (10, .v (.int .i64 k) none)], bx := [], tb := [], sh := [], hint := [(5, 9)] }) (ts.length) (by first | rfl | simp) ?_ ?_
 exact ⟨0, by simp [txts]⟩
 rintro j s ⟨k, hk, rfl, rfl⟩ K2 hK2
 refine sr fun Z z => ?_
 simp [row_map]
 refine z _ ?_
 clear z Z
 refine AT_seq_k fun K3 hK3 => ?_
 refine AT_cond (g := none) rfl (fun hb11 => ?_) (fun hb11 => ?_)
 simp [row_map] at hb11
 refine AT_skip ?_
 refine hK3 _ ?_
 refine AT_seq_k fun K4 hK4 => ?_
 refine AT_block ?_
 refine sr fun Z z => ?_
 simp [row_map, hb11]
 refine z _ ?_
 clear z Z
 refine AT_region_q fun Z z => ?_
 have hm := wts_mem (l := ts) (t := ts[k]) (by simp)
 have htl := txts_len (ts.take k)
 have hlt2 : (ts.take k).length ≤ k := by simp; omega
 simp [row_map, hb11]
 refine RVn_call (c_types_Text g rnd ts[k] (by omega)) ?_
 simp [row_map, hb11]
 repeat refine sg ?_
 refine z _ ?_
 clear z Z
 refine hK4 _ ?_
 refine AT_region_q fun Z z => ?_
 simp [row_map, hb11]
 repeat refine sg ?_
 refine z _ ?_
 clear z Z
 refine hK2 _ (by first | rfl | simp) (ts.length - (k+1)) (by omega) ?_
 have hs := txts_take ts k hb11
 exact ⟨k+1, by omega, by omega, by simp [hs, encS]⟩
 simp [row_map] at hb11
 refine AT_exit ?_
 refine hK1 _ ?_
 refine sr fun Z z => ?_
 try rw [List.take_of_length_le hb11]
 simp [row_map, hb11]
 refine RVn_call (c_strings_Join g rnd (txts ts) [44, 32] (by rw [txts_len]; omega) (by omega)) ?_
 simp [row_map, hb11]
 refine z _ ?_
 clear z Z
 refine AT_ret ?_
 simp [row_map, Tryd.f40]

theorem c_expr_join_api_Expr (l : List Exp) (hw : wtEs l ≤ 1000000000) (hs : ∀ e ∈ l, Valid Tryd.prog (G0 g rnd) 14 [.agg (encE e)] (.str (txtE e))) : Valid Tryd.prog (G0 g rnd) 42 [.slice (l.map encE), .func 14 []] (.str (Lib.join (txtEs l) [44, 32])) := by
 have hlt := wtEs_len l
 have hjl := txtEs_join_len l
 refine valid_of [(5, 9)] Tryd.func42 rfl (by kernel_rfl) ?_
 refine sr fun Z z => ?_
 simp [row_map, Tryd.f42]
 refine z _ ?_
 clear z Z
 refine sr fun Z z => ?_
 simp [row_map]
 refine z _ ?_
 clear z Z
 refine AT_seq_k fun K1 hK1 => ?_
 refine sr fun Z z => ?_
 simp [row_map]
 refine z _ ?_
 clear z Z
 refine AT_block ?_
 refine AT_loop_q [1,5,8,9,10] [] (fun j s => ∃ k, k ≤ l.length ∧ j = l.length - k ∧ s = { n := 23, tm := [(1, .v (.func 14 []) none), (5, .v (.slice ((txtEs (l.take k)).map encS)) (some (5, 9))), (8, .v (.slice (l.map encE)) none), (9, .v (.int .i64 l.length) none), (10, .v (.int .i64 k) none)], bx := [], tb := [], sh := [], hint := [(5, 9)] }) (l.length) (by first | rfl | simp) ?_ ?_
 exact ⟨0, by simp [txtEs]⟩
 rintro j s ⟨k, hk, rfl, rfl⟩ K2 hK2
 refine sr fun Z z => ?_
 simp [row_map]
 refine z _ ?_
 clear z Z
 refine AT_seq_k fun K3 hK3 => ?_
 refine AT_cond (g := none) rfl (fun hb11 => ?_) (fun hb11 => ?_)
 simp [row_map] at hb11
 refine AT_skip ?_
 refine hK3 _ ?_
 refine AT_seq_k fun K4 hK4 => ?_
 refine AT_block ?_
 refine sr fun Z z => ?_
 simp [row_map, hb11]
 refine z _ ?_
 clear z Z
 refine AT_region_q fun Z z => ?_
 have htl := txtEs_len (l.take k)
 have hlt2 : (l.take k).length ≤ k := by simp; omega
 simp [row_map, hb11]
 refine RVn_call (hs l[k] (by simp)) ?_
 simp [row_map, hb11]
 repeat refine sg ?_
 refine z _ ?_
 clear z Z
 refine hK4 _ ?_
 refine AT_region_q fun Z z => ?_
 simp [row_map, hb11]
 repeat refine sg ?_
 refine z _ ?_
 clear z Z
 refine hK2 _ (by first | rfl | simp) (l.length - (k+1)) (by omega) ?_
 have hs := txtEs_take l k hb11
 exact ⟨k+1, by omega, by omega, by simp [hs, encS]⟩
 simp [row_map] at hb11
 refine AT_exit ?_
 refine hK1 _ ?_
 refine sr fun Z z => ?_
 try rw [List.take_of_length_le hb11]
 simp [row_map, hb11]
 refine RVn_call (c_strings_Join g rnd (txtEs l) [44, 32] (by rw [txtEs_len]; omega) (by omega)) ?_
 simp [row_map, hb11]
 refine z _ ?_
 clear z Z
 refine AT_ret ?_
 simp [row_map, Tryd.f42]

theorem c_expr_Text (e : Exp) : rightE e = true → wtE e ≤ 1000000000 → Valid Tryd.prog (G0 g rnd) 14 [.agg (encE e)] (.str (txtE e)) := by
 induction e using Exp.ind with
 | h kd n t ta l p ih =>
 intro hr hw
 have hw2 : n.length + 1 + wt t + wts ta + wtEs l ≤ 1000000000 := by simpa [wtE_mk] using hw
 have hln := wtEs_len l
 have hla := wts_len ta
 refine valid_of [] Tryd.func14 rfl (by kernel_rfl) ?_
 refine sr fun Z z => ?_
 simp [row_map, Tryd.f14]
 refine z _ ?_
 clear z Z
 refine AT_seq_k fun K1 hK1 => ?_
 rcases rightE_kind hr with ⟨hk, hl⟩ | ⟨hk, hl0⟩ | hk | ⟨hk45, hl1⟩
 have e1 : (kd == 1) = true := by rw [hk]; rfl
 have e2 : (kd == 2) = false := by rw [hk]; rfl
 have e3 : (kd == 3) = false := by rw [hk]; rfl
 have e4 : (kd == 4) = false := by rw [hk]; rfl
 have e5 : (kd == 5) = false := by rw [hk]; rfl
 refine sr fun Z z => ?_
 simp [row_map, e1, e2, e3, e4, e5]
 refine z _ ?_
 clear z Z
 refine AT_block ?_
 refine sr fun Z z => ?_
 simp [row_map, e1, e2, e3, e4, e5]
 refine z _ ?_
 clear z Z
 refine cF (by simp [e1, e2, e3, e4, e5]) ?_
 refine sr fun Z z => ?_
 simp [row_map, e1, e2, e3, e4, e5]
 refine z _ ?_
 clear z Z
 refine cF (by simp [e1, e2, e3, e4, e5]) ?_
 refine sr fun Z z => ?_
 simp [row_map, e1, e2, e3, e4, e5]
 refine z _ ?_
 clear z Z
 refine cF (by simp [e1, e2, e3, e4, e5]) ?_
 refine sr fun Z z => ?_
 simp [row_map, e1, e2, e3, e4, e5]
 refine z _ ?_
 clear z Z
 refine cF (by simp [e1, e2, e3, e4, e5]) ?_
 refine AT_skip ?_
 refine hK1 _ ?_
 refine sr fun Z z => ?_
 simp [row_map, e1, e2, e3, e4, e5]
 refine z _ ?_
 clear z Z
 refine AT_ret ?_
 simp [row_map, Tryd.f14]
 (· simp [txtE, hk, hl, txtEs])
 have e1 : (kd == 1) = false := by rw [hk]; rfl
 have e2 : (kd == 2) = true := by rw [hk]; rfl
 have e3 : (kd == 3) = false := by rw [hk]; rfl
 have e4 : (kd == 4) = false := by rw [hk]; rfl
 have e5 : (kd == 5) = false := by rw [hk]; rfl
 have h0 : 0 < l.length := List.length_pos_iff.2 hl0
 have hm0 := wtEs_mem (l := l) (e := l[0]) (by simp)
 have hxw := txtE_wt l[0]
 have hd1 : wtEs (l.drop 1) ≤ wtEs l := by
   conv => rhs; rw [← List.take_append_drop 1 l]
   rw [wtEs_app]; omega
 have hjr := txtEs_join_len (l.drop 1)
 have hta := txt_wt (.mk [] ta 0)
 have htb : wt (.mk [] ta 0) = 1 + wts ta := by simp [wt]
 have hcons : txtEs l = txtE l[0] :: txtEs (l.drop 1) := by
   cases l with
   | nil => exact absurd rfl hl0
   | cons x r => rfl
 refine sr fun Z z => ?_
 simp [row_map, e1, e2, e3, e4, e5, h0]
 refine z _ ?_
 clear z Z
 refine AT_block ?_
 refine sr fun Z z => ?_
 simp [row_map, e1, e2, e3, e4, e5, h0]
 refine z _ ?_
 clear z Z
 refine cT (by simp [e1, e2, e3, e4, e5, h0]) ?_
 refine sr fun Z z => ?_
 simp [row_map, e1, e2, e3, e4, e5, h0]
 refine z _ ?_
 clear z Z
 refine AT_seq_k fun K2 hK2 => ?_
 refine sr fun Z z => ?_
 simp [row_map, e1, e2, e3, e4, e5, h0]
 refine z _ ?_
 clear z Z
 refine AT_cond (g := none) rfl (fun hb11 => ?_) (fun hb11 => ?_)
 simp [row_map, e1, e2, e3, e4, e5, h0] at hb11
 refine AT_region_q fun Z z => ?_
 have hjt := txts_join_len ta
 simp [row_map, e1, e2, e3, e4, e5, h0]
 refine RVn_call (c_expr_join_api_Type g rnd ta (by omega)) ?_
 simp [row_map, e1, e2, e3, e4, e5, h0]
 repeat refine sgE ?_
 refine z _ ?_
 clear z Z
 refine hK2 _ ?_
 refine AT_seq_draw Pt.mixed (by kernel_rfl) fun Z z => ?_
 have hjt := txts_join_len ta
 simp [row_map, e1, e2, e3, e4, e5, h0]
 refine RVdn_call (ih l[0] (by simp) (rightE_kids hr l[0] (by simp)) (by omega)) ?_
 simp [row_map, e1, e2, e3, e4, e5, h0]
 repeat refine sgE ?_
 refine RVdn_call ((by have h := c_expr_join_api_Expr g rnd (l.drop 1) (by omega) (fun y hy => ih y (List.mem_of_mem_drop hy) (rightE_kids hr y (List.mem_of_mem_drop hy)) (by have := wtEs_mem hy; omega)); rw [List.map_drop, List.drop_one] at h; exact h)) ?_
 simp [row_map, e1, e2, e3, e4, e5, h0]
 repeat refine sgE ?_
 refine z _ ?_
 clear z Z
 refine AT_ret ?_
 simp [row_map, Tryd.f14]
 (· have hne : ta.isEmpty = false := by cases ta with | nil => exact absurd hb11 (by simp) | cons a b => rfl
    simp [txtE, hk, hcons, txt, hne])
 simp [row_map, e1, e2, e3, e4, e5, h0] at hb11
 refine AT_skip ?_
 refine hK2 _ ?_
 refine AT_seq_draw Pt.mixed (by kernel_rfl) fun Z z => ?_
 have hjt := txts_join_len ta
 simp [row_map, e1, e2, e3, e4, e5, h0]
 refine RVdn_call (ih l[0] (by simp) (rightE_kids hr l[0] (by simp)) (by omega)) ?_
 simp [row_map, e1, e2, e3, e4, e5, h0]
 repeat refine sgE ?_
 refine RVdn_call ((by have h := c_expr_join_api_Expr g rnd (l.drop 1) (by omega) (fun y hy => ih y (List.mem_of_mem_drop hy) (rightE_kids hr y (List.mem_of_mem_drop hy)) (by have := wtEs_mem hy; omega)); rw [List.map_drop, List.drop_one] at h; exact h)) ?_
 simp [row_map, e1, e2, e3, e4, e5, h0]
 repeat refine sgE ?_
 refine z _ ?_
 clear z Z
 refine AT_ret ?_
 simp [row_map, Tryd.f14]
 (· have hne : ta = [] := by cases ta with | nil => rfl | cons a b => exact absurd hb11 (by simp)
    simp [txtE, hk, hcons, txt, hne])
 have e1 : (kd == 1) = false := by rw [hk]; rfl
 have e2 : (kd == 2) = false := by rw [hk]; rfl
 have e3 : (kd == 3) = true := by rw [hk]; rfl
 have e4 : (kd == 4) = false := by rw [hk]; rfl
 have e5 : (kd == 5) = false := by rw [hk]; rfl
 have htw := txt_wt t
 have hjl := txtEs_join_len l
 refine sr fun Z z => ?_
 simp [row_map, e1, e2, e3, e4, e5]
 refine z _ ?_
 clear z Z
 refine AT_block ?_
 refine sr fun Z z => ?_
 simp [row_map, e1, e2, e3, e4, e5]
 refine z _ ?_
 clear z Z
 refine cF (by simp [e1, e2, e3, e4, e5]) ?_
 refine sr fun Z z => ?_
 simp [row_map, e1, e2, e3, e4, e5]
 refine z _ ?_
 clear z Z
 refine cT (by simp [e1, e2, e3, e4, e5]) ?_
 refine AT_seq_draw Pt.mixed (by kernel_rfl) fun Z z => ?_
 simp [row_map, e1, e2, e3, e4, e5]
 refine RVdn_call (c_types_Text g rnd t (by omega)) ?_
 simp [row_map, e1, e2, e3, e4, e5]
 repeat refine sgE ?_
 refine RVdn_call (c_expr_join_api_Expr g rnd l (by omega) (fun y hy => ih y hy (rightE_kids hr y hy) (by have := wtEs_mem hy; omega))) ?_
 simp [row_map, e1, e2, e3, e4, e5]
 repeat refine sgE ?_
 refine z _ ?_
 clear z Z
 refine AT_ret ?_
 simp [row_map, Tryd.f14]
 (· simp [txtE, hk])
 have h0 : 0 < l.length := by omega
 have hm0 := wtEs_mem (l := l) (e := l[0]) (by simp)
 have hxw := txtE_wt l[0]
 have htw := txt_wt t
 have hcons : txtEs l = [txtE l[0]] := by
   obtain ⟨x, rfl⟩ := List.length_eq_one_iff.1 hl1
   rfl
 rcases hk45 with hk | hk
 have e1 : (kd == 1) = false := by rw [hk]; rfl
 have e2 : (kd == 2) = false := by rw [hk]; rfl
 have e3 : (kd == 3) = false := by rw [hk]; rfl
 have e4 : (kd == 4) = true := by rw [hk]; rfl
 have e5 : (kd == 5) = false := by rw [hk]; rfl
 refine sr fun Z z => ?_
 simp [row_map, h0, e1, e2, e3, e4, e5]
 refine z _ ?_
 clear z Z
 refine AT_block ?_
 refine sr fun Z z => ?_
 simp [row_map, h0, e1, e2, e3, e4, e5]
 refine z _ ?_
 clear z Z
 refine cF (by simp [h0, e1, e2, e3, e4, e5]) ?_
 refine sr fun Z z => ?_
 simp [row_map, h0, e1, e2, e3, e4, e5]
 refine z _ ?_
 clear z Z
 refine cF (by simp [h0, e1, e2, e3, e4, e5]) ?_
 refine sr fun Z z => ?_
 simp [row_map, h0, e1, e2, e3, e4, e5]
 refine z _ ?_
 clear z Z
 refine cT (by simp [h0, e1, e2, e3, e4, e5]) ?_
 refine AT_seq_draw Pt.mixed (by kernel_rfl) fun Z z => ?_
 simp [row_map, h0, e1, e2, e3, e4, e5]
 refine RVdn_call (ih l[0] (by simp) (rightE_kids hr l[0] (by simp)) (by omega)) ?_
 simp [row_map, h0, e1, e2, e3, e4, e5]
 repeat refine sgE ?_
 refine z _ ?_
 clear z Z
 refine AT_ret ?_
 simp [row_map, Tryd.f14]
 (· simp [txtE, hk, hcons])
 have e1 : (kd == 1) = false := by rw [hk]; rfl
 have e2 : (kd == 2) = false := by rw [hk]; rfl
 have e3 : (kd == 3) = false := by rw [hk]; rfl
 have e4 : (kd == 4) = false := by rw [hk]; rfl
 have e5 : (kd == 5) = true := by rw [hk]; rfl
 refine sr fun Z z => ?_
 simp [row_map, h0, e1, e2, e3, e4, e5]
 refine z _ ?_
 clear z Z
 refine AT_block ?_
 refine sr fun Z z => ?_
 simp [row_map, h0, e1, e2, e3, e4, e5]
 refine z _ ?_
 clear z Z
 refine cF (by simp [h0, e1, e2, e3, e4, e5]) ?_
 refine sr fun Z z => ?_
 simp [row_map, h0, e1, e2, e3, e4, e5]
 refine z _ ?_
 clear z Z
 refine cF (by simp [h0, e1, e2, e3, e4, e5]) ?_
 refine sr fun Z z => ?_
 simp [row_map, h0, e1, e2, e3, e4, e5]
 refine z _ ?_
 clear z Z
 refine cF (by simp [h0, e1, e2, e3, e4, e5]) ?_
 refine sr fun Z z => ?_
 simp [row_map, h0, e1, e2, e3, e4, e5]
 refine z _ ?_
 clear z Z
 refine cT (by simp [h0, e1, e2, e3, e4, e5]) ?_
 refine AT_seq_draw Pt.mixed (by kernel_rfl) fun Z z => ?_
 simp [row_map, h0, e1, e2, e3, e4, e5]
 refine RVdn_call (ih l[0] (by simp) (rightE_kids hr l[0] (by simp)) (by omega)) ?_
 simp [row_map, h0, e1, e2, e3, e4, e5]
 repeat refine sgE ?_
 refine RVdn_call (c_types_Text g rnd t (by omega)) ?_
 simp [row_map, h0, e1, e2, e3, e4, e5]
 repeat refine sgE ?_
 refine z _ ?_
 clear z Z
 refine AT_ret ?_
 simp [row_map, Tryd.f14]
 (· simp [txtE, hk, hcons])

end Go.Proofs.YtjkabaejabibnaaDoor
end

section
/- Contracts: what every law of this package asks first. -/
set_option linter.all false
set_option maxHeartbeats 1000000
set_option maxRecDepth 10000
namespace Go.Proofs.YtjkabaejabibnaaDoor
open Go Go.Pv
variable (g : Nat → Option (List AV)) (rnd : Bool)

def awX : Exp := .mk 1 [120] ty0 [] [] 0
def awF : Exp := .mk 1 [102] ty0 [] [] 0
def awV : Exp := .mk 3 [] (.mk [84] [] 0) [] [] 0
def awC : Exp := .mk 2 [77, 97, 112] ty0 [.mk [98] [] 0] [awX, awF] 0
def awE : Exp := .mk 2 [77, 97, 112] ty0 [.mk [73, 110, 116] [] 0] [awX, awF] 0
def awR : Exp := .mk 2 [77, 97, 112] ty0 [.mk [98] [] 0] [awX, awV] 0
theorem c_law05x_awake (hres : g 0 = some reservedA) : Valid Tryd.prog (G0 g false) 8 [] (.bool true) := by

 refine valid_of [] Tryd.func8 rfl (by kernel_rfl) ?_
 refine sr fun Z z => ?_
 simp [Tryd.f8]
 refine z _ ?_
 clear z Z
 refine sr fun Z z => ?_
 simp
 refine z _ ?_
 clear z Z
 refine sr fun Z z => ?_
 simp
 refine z _ ?_
 clear z Z
 refine sr fun Z z => ?_
 simp
 refine z _ ?_
 clear z Z
 refine sr fun Z z => ?_
 simp
 refine z _ ?_
 clear z Z
 refine sr fun Z z => ?_
 simp
 refine RVn_call ((by have h := c_expr_Subst g false [[98]] [.mk [73, 110, 116] [] 0] (by decide) (by decide) (by decide) awC (by decide); exact h : Valid Tryd.prog (G0 g false) 22 [.agg [.int .i64 2, .str [77, 97, 112], .str [], .slice [], .int .i64 0, .slice [[.str [98], .slice [], .int .i64 0]], .slice [[.int .i64 1, .str [120], .str [], .slice [], .int .i64 0, .slice [], .slice [], .int .i64 0], [.int .i64 1, .str [102], .str [], .slice [], .int .i64 0, .slice [], .slice [], .int .i64 0]], .int .i64 0], .slice [[.str [98]]], .slice [[.str [73, 110, 116], .slice [], .int .i64 0]]] (.agg [.int .i64 2, .str [77, 97, 112], .str [], .slice [], .int .i64 0, .slice [[.str [73, 110, 116], .slice [], .int .i64 0]], .slice [[.int .i64 1, .str [120], .str [], .slice [], .int .i64 0, .slice [], .slice [], .int .i64 0], [.int .i64 1, .str [102], .str [], .slice [], .int .i64 0, .slice [], .slice [], .int .i64 0]], .int .i64 0]))) ?_
 simp
 refine z _ ?_
 clear z Z
 refine sr fun Z z => ?_
 simp
 refine RVn_call ((by have h := c_expr_Text g false awC (by decide) (by decide); exact h : Valid Tryd.prog (G0 g false) 14 [.agg [.int .i64 2, .str [77, 97, 112], .str [], .slice [], .int .i64 0, .slice [[.str [98], .slice [], .int .i64 0]], .slice [[.int .i64 1, .str [120], .str [], .slice [], .int .i64 0, .slice [], .slice [], .int .i64 0], [.int .i64 1, .str [102], .str [], .slice [], .int .i64 0, .slice [], .slice [], .int .i64 0]], .int .i64 0]] (.str [120, 46, 77, 97, 112, 91, 98, 93, 40, 102, 41]))) ?_
 simp
 refine RVn_call ((by have h := c_expr_Right g false awC (by decide) hres; exact h : Valid Tryd.prog (G0 g false) 10 [.agg [.int .i64 2, .str [77, 97, 112], .str [], .slice [], .int .i64 0, .slice [[.str [98], .slice [], .int .i64 0]], .slice [[.int .i64 1, .str [120], .str [], .slice [], .int .i64 0, .slice [], .slice [], .int .i64 0], [.int .i64 1, .str [102], .str [], .slice [], .int .i64 0, .slice [], .slice [], .int .i64 0]], .int .i64 0]] (.bool true))) ?_
 simp
 refine RVn_call ((by have h := c_expr_Right g false ex0 (by decide) hres; exact h : Valid Tryd.prog (G0 g false) 10 [.agg [.int .i64 0, .str [], .str [], .slice [], .int .i64 0, .slice [], .slice [], .int .i64 0]] (.bool false))) ?_
 simp
 refine RVn_call ((by have h := c_expr_Depth g false awC (by decide); exact h : Valid Tryd.prog (G0 g false) 16 [.agg [.int .i64 2, .str [77, 97, 112], .str [], .slice [], .int .i64 0, .slice [[.str [98], .slice [], .int .i64 0]], .slice [[.int .i64 1, .str [120], .str [], .slice [], .int .i64 0, .slice [], .slice [], .int .i64 0], [.int .i64 1, .str [102], .str [], .slice [], .int .i64 0, .slice [], .slice [], .int .i64 0]], .int .i64 0]] (.int .i64 2))) ?_
 simp
 refine RVn_call ((by have h := c_expr_Value g false awC (by decide); exact h : Valid Tryd.prog (G0 g false) 18 [.agg [.int .i64 2, .str [77, 97, 112], .str [], .slice [], .int .i64 0, .slice [[.str [98], .slice [], .int .i64 0]], .slice [[.int .i64 1, .str [120], .str [], .slice [], .int .i64 0, .slice [], .slice [], .int .i64 0], [.int .i64 1, .str [102], .str [], .slice [], .int .i64 0, .slice [], .slice [], .int .i64 0]], .int .i64 0]] (.bool false))) ?_
 simp
 refine RVn_call ((by have h := c_expr_Value g false awV (by decide); exact h : Valid Tryd.prog (G0 g false) 18 [.agg [.int .i64 3, .str [], .str [84], .slice [], .int .i64 0, .slice [], .slice [], .int .i64 0]] (.bool true))) ?_
 simp
 refine RVn_call ((by have h := c_expr_Text g false awE (by decide) (by decide); exact h : Valid Tryd.prog (G0 g false) 14 [.agg [.int .i64 2, .str [77, 97, 112], .str [], .slice [], .int .i64 0, .slice [[.str [73, 110, 116], .slice [], .int .i64 0]], .slice [[.int .i64 1, .str [120], .str [], .slice [], .int .i64 0, .slice [], .slice [], .int .i64 0], [.int .i64 1, .str [102], .str [], .slice [], .int .i64 0, .slice [], .slice [], .int .i64 0]], .int .i64 0]] (.str [120, 46, 77, 97, 112, 91, 73, 110, 116, 93, 40, 102, 41]))) ?_
 simp
 refine RVn_call ((by have h := c_expr_Replace g false [[102]] [awV] (by decide) (by decide) (by decide) awC (by decide); exact h : Valid Tryd.prog (G0 g false) 25 [.agg [.int .i64 2, .str [77, 97, 112], .str [], .slice [], .int .i64 0, .slice [[.str [98], .slice [], .int .i64 0]], .slice [[.int .i64 1, .str [120], .str [], .slice [], .int .i64 0, .slice [], .slice [], .int .i64 0], [.int .i64 1, .str [102], .str [], .slice [], .int .i64 0, .slice [], .slice [], .int .i64 0]], .int .i64 0], .slice [[.str [102]]], .slice [[.int .i64 3, .str [], .str [84], .slice [], .int .i64 0, .slice [], .slice [], .int .i64 0]]] (.agg [.int .i64 2, .str [77, 97, 112], .str [], .slice [], .int .i64 0, .slice [[.str [98], .slice [], .int .i64 0]], .slice [[.int .i64 1, .str [120], .str [], .slice [], .int .i64 0, .slice [], .slice [], .int .i64 0], [.int .i64 3, .str [], .str [84], .slice [], .int .i64 0, .slice [], .slice [], .int .i64 0]], .int .i64 0]))) ?_
 simp
 refine RVn_call ((by have h := c_expr_Text g false awR (by decide) (by decide); exact h : Valid Tryd.prog (G0 g false) 14 [.agg [.int .i64 2, .str [77, 97, 112], .str [], .slice [], .int .i64 0, .slice [[.str [98], .slice [], .int .i64 0]], .slice [[.int .i64 1, .str [120], .str [], .slice [], .int .i64 0, .slice [], .slice [], .int .i64 0], [.int .i64 3, .str [], .str [84], .slice [], .int .i64 0, .slice [], .slice [], .int .i64 0]], .int .i64 0]] (.str [120, 46, 77, 97, 112, 91, 98, 93, 40, 84, 123, 125, 41]))) ?_
 simp
 refine RVn_call ((by have h := c_expr_Same g false awC awC (by decide); exact h : Valid Tryd.prog (G0 g false) 12 [.agg [.int .i64 2, .str [77, 97, 112], .str [], .slice [], .int .i64 0, .slice [[.str [98], .slice [], .int .i64 0]], .slice [[.int .i64 1, .str [120], .str [], .slice [], .int .i64 0, .slice [], .slice [], .int .i64 0], [.int .i64 1, .str [102], .str [], .slice [], .int .i64 0, .slice [], .slice [], .int .i64 0]], .int .i64 0], .agg [.int .i64 2, .str [77, 97, 112], .str [], .slice [], .int .i64 0, .slice [[.str [98], .slice [], .int .i64 0]], .slice [[.int .i64 1, .str [120], .str [], .slice [], .int .i64 0, .slice [], .slice [], .int .i64 0], [.int .i64 1, .str [102], .str [], .slice [], .int .i64 0, .slice [], .slice [], .int .i64 0]], .int .i64 0]] (.bool true))) ?_
 simp
 refine RVn_call ((by have h := c_expr_Same g false awC awE (by decide); exact h : Valid Tryd.prog (G0 g false) 12 [.agg [.int .i64 2, .str [77, 97, 112], .str [], .slice [], .int .i64 0, .slice [[.str [98], .slice [], .int .i64 0]], .slice [[.int .i64 1, .str [120], .str [], .slice [], .int .i64 0, .slice [], .slice [], .int .i64 0], [.int .i64 1, .str [102], .str [], .slice [], .int .i64 0, .slice [], .slice [], .int .i64 0]], .int .i64 0], .agg [.int .i64 2, .str [77, 97, 112], .str [], .slice [], .int .i64 0, .slice [[.str [73, 110, 116], .slice [], .int .i64 0]], .slice [[.int .i64 1, .str [120], .str [], .slice [], .int .i64 0, .slice [], .slice [], .int .i64 0], [.int .i64 1, .str [102], .str [], .slice [], .int .i64 0, .slice [], .slice [], .int .i64 0]], .int .i64 0]] (.bool false))) ?_
 simp
 refine RVn_call ((by have h := c_expr_All g false awC; exact h : Valid Tryd.prog (G0 g false) 28 [.agg [.int .i64 2, .str [77, 97, 112], .str [], .slice [], .int .i64 0, .slice [[.str [98], .slice [], .int .i64 0]], .slice [[.int .i64 1, .str [120], .str [], .slice [], .int .i64 0, .slice [], .slice [], .int .i64 0], [.int .i64 1, .str [102], .str [], .slice [], .int .i64 0, .slice [], .slice [], .int .i64 0]], .int .i64 0]] (.func 56 [.ro ([.int .i64 2, .str [77, 97, 112], .str [], .slice [], .int .i64 0, .slice [[.str [98], .slice [], .int .i64 0]], .slice [[.int .i64 1, .str [120], .str [], .slice [], .int .i64 0, .slice [], .slice [], .int .i64 0], [.int .i64 1, .str [102], .str [], .slice [], .int .i64 0, .slice [], .slice [], .int .i64 0]], .int .i64 0])]))) ?_
 simp
 refine z _ ?_
 clear z Z
 refine AT_ret ?_
 simp [Tryd.f8]

end Go.Proofs.YtjkabaejabibnaaDoor
end

section
/- The law: variables replaced in an expression. -/
set_option linter.all false
set_option maxHeartbeats 1000000
set_option maxRecDepth 10000
namespace Go.Proofs.YtjkabaejabibnaaDoor
open Go Go.Pv
variable (g : Nat → Option (List AV)) (rnd : Bool)

end Go.Proofs.YtjkabaejabibnaaDoor
end

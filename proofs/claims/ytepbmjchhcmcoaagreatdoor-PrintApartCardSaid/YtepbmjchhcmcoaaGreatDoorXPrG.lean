import Derived.Test.YtepbmjchhcmcoaaGreatDoorPt
import Derived.Test.YtepbmjchhcmcoaaGreatDoorPvPb
import Derived.Test.YtepbmjchhcmcoaaGreatDoorPvY
import Derived.Test.YtepbmjchhcmcoaaGreatDoorXDcS
import Derived.Test.YtepbmjchhcmcoaaGreatDoorPvXb
import Derived.Test.YtepbmjchhcmcoaaGreatDoorXPrE
import Derived.Test.YtepbmjchhcmcoaaGreatDoorXExG
section
/- Contracts: the reference compares programs. -/
set_option linter.all false
set_option maxHeartbeats 1000000
set_option maxRecDepth 10000
namespace Go.Proofs.YtepbmjchhcmcoaaGreatDoor
open Go Go.Pv
variable (g : Nat → Option (List AV)) (rnd : Bool)

theorem c_ref06x_Program (a b : Pg) (hw : wtPg a ≤ 400000000) : Valid Tryz.prog (G0 g rnd) 24 [.agg (encPg a), .agg (encPg b), .bool false] (.bool (sameP a b)) := by
 have hw2 : wtDs a.decls + wtE a.main ≤ 400000000 := hw
 have hlD := wtDs_len a.decls
 refine valid_of [] Tryz.func24 rfl (by kernel_rfl) ?_
 refine sr fun Z z => ?_
 simp [row_map, encPg, Tryz.f24]
 refine z _ ?_
 clear z Z
 refine AT_seq_k fun K1 hK1 => ?_
 cases h1 : ((a.decls.length : Int) != b.decls.length)
 cases h2 : (sameE a.main b.main)
 refine sr fun Z z => ?_
 simp [row_map, encPg, h1, h2]
 refine RVn_call ((by have h := c_ref05x_Same g rnd a.main b.main (by omega); simp only [encE_def] at h; exact h)) ?_
 simp [row_map, encPg, h1, h2]
 repeat refine sg ?_
 refine z _ ?_
 clear z Z
 refine AT_cond (b := true) (g := none) (by simp [h1, h2]) (fun hb => ?_) (fun hb => ?_)
 clear hb
 refine sr fun Z z => ?_
 simp [row_map, encPg, h1, h2]
 refine z _ ?_
 clear z Z
 refine AT_ret ?_
 simp [row_map, encPg, Tryz.f24]
 (· rw [sameP, h2, Bool.and_false])
 cases hb
 refine sr fun Z z => ?_
 simp [row_map, encPg, h1, h2]
 refine RVn_call ((by have h := c_ref05x_Same g rnd a.main b.main (by omega); simp only [encE_def] at h; exact h)) ?_
 simp [row_map, encPg, h1, h2]
 repeat refine sg ?_
 refine z _ ?_
 clear z Z
 refine AT_cond (b := false) (g := none) (by simp [h1, h2]) (fun hb => ?_) (fun hb => ?_)
 cases hb
 clear hb
 refine AT_skip ?_
 simp only [nrm, reduceIte, Nat.reduceEqDiff]
 refine hK1 _ ?_
 refine AT_seq_k fun K2 hK2 => ?_
 refine sr fun Z z => ?_
 have h1c : (a.decls.length : Int) = b.decls.length := by simpa using h1
 have h1b : a.decls.length = b.decls.length := by omega
 simp [row_map, encPg, h1, h2]
 refine z _ ?_
 clear z Z
 refine AT_block ?_
 refine AT_loop_q [2,3,4,7] [3,4] (fun j s => ∃ k, k ≤ a.decls.length ∧ eqL sameD a.decls b.decls = eqL sameD (a.decls.drop k) (b.decls.drop k) ∧ j = a.decls.length - k ∧ s = { n := 54, tm := [(2, .v (.bool false) none), (3, .lp 3 0), (4, .lp 4 0), (7, .v (.int .i64 k) none)], bx := [(3, encPg a), (4, encPg b)], tb := [], sh := [], hint := [] }) (a.decls.length) (by first | rfl | simp) ?_ ?_
 exact ⟨0, by simp [encPg]⟩
 rintro j s ⟨k, hk, hc, rfl, rfl⟩ K3 hK3
 refine AT_seq_k fun K4 hK4 => ?_
 refine sr fun Z z => ?_
 simp [row_map, encPg, h1, h2]
 refine z _ ?_
 clear z Z
 refine AT_cond (g := none) rfl (fun hb38 => ?_) (fun hb38 => ?_)
 simp [row_map, encPg, h1, h2] at hb38
 refine AT_skip ?_
 simp only [nrm, reduceIte, Nat.reduceEqDiff]
 refine hK4 _ ?_
 refine AT_seq_k fun K5 hK5 => ?_
 refine AT_block ?_
 refine AT_seq_draw Pt.mixed (by kernel_rfl) fun Z z => ?_
 have hkb : k < b.decls.length := by omega
 have hka : k < a.decls.length := by omega
 have hda := List.drop_eq_getElem_cons hka
 have hdb := List.drop_eq_getElem_cons hkb
 have hm9 := wtDs_mem (l := a.decls) (f := a.decls[k]) (by simp)
 simp [row_map, encPg, hkb, h1, h2, hb38]
 refine RVdn_call (c_ref06x_Decl g rnd a.decls[k] b.decls[k] (by omega)) ?_
 simp [row_map, encPg, hkb, h1, h2, hb38]
 refine z _ ?_
 clear z Z
 refine AT_cond (g := none) rfl (fun hb53 => ?_) (fun hb53 => ?_)
 simp [row_map, encPg, h1, h2, hb38] at hb53
 refine sr fun Z z => ?_
 simp [row_map, encPg, h1, h2, hb38]
 refine z _ ?_
 clear z Z
 refine AT_ret ?_
 simp [row_map, encPg, Tryz.f24]
 (rw [sameP, hc, hda, hdb, eqL_cons, hb53]; rfl)
 simp [row_map, encPg, h1, h2, hb38] at hb53
 refine AT_skip ?_
 simp only [nrm, reduceIte, Nat.reduceEqDiff]
 refine hK5 _ ?_
 refine AT_region_q fun Z z => ?_
 simp [row_map, encPg, h1, h2, hb38]
 repeat refine sg ?_
 refine z _ ?_
 clear z Z
 simp only [nrm, reduceIte, Nat.reduceEqDiff]
 refine hK3 _ (by first | rfl | simp) (a.decls.length - (k+1)) (by omega) ?_
 refine ⟨k+1, by omega, ?_, by omega, by simp [encPg]⟩
 rw [hc, hda, hdb, eqL_cons, hb53]; rfl
 simp [row_map, encPg, h1, h2] at hb38
 refine AT_exit ?_
 simp only [nrm, reduceIte, Nat.reduceEqDiff]
 refine hK2 _ ?_
 refine sr fun Z z => ?_
 simp [row_map, encPg, h1, h2, hb38]
 refine z _ ?_
 clear z Z
 refine AT_ret ?_
 simp [row_map, encPg, Tryz.f24]
 (have hS : eqL sameD a.decls b.decls = true := by rw [hc, List.drop_eq_nil_of_le (by omega), List.drop_eq_nil_of_le (show b.decls.length ≤ k by omega)]; rfl
  rw [sameP, hS, h2]; rfl)
 refine sr fun Z z => ?_
 simp [row_map, encPg, h1]
 refine z _ ?_
 clear z Z
 refine AT_cond (b := true) (g := none) (by simp [h1]) (fun hb => ?_) (fun hb => ?_)
 clear hb
 refine sr fun Z z => ?_
 simp [row_map, encPg, h1]
 refine z _ ?_
 clear z Z
 refine AT_ret ?_
 simp [row_map, encPg, Tryz.f24]
 (rw [sameP, eqL_len (a := a.decls) (b := b.decls) (int_ne h1)]; rfl)
 cases hb

theorem c_ref06x_Same (a b : Pg) (hw : wtPg a ≤ 400000000) : Valid Tryz.prog (G0 g rnd) 10 [.agg (encPg a), .agg (encPg b)] (.bool (sameP a b)) := by

 refine valid_of [] Tryz.func10 rfl (by kernel_rfl) ?_
 refine sr fun Z z => ?_
 simp [encPg, Tryz.f10]
 refine z _ ?_
 clear z Z
 refine sr fun Z z => ?_
 simp [encPg]
 refine RVn_call ((by have h := c_ref06x_Program g rnd a b hw; simp only [encPg] at h; exact h)) ?_
 simp [encPg]
 refine z _ ?_
 clear z Z
 refine AT_ret ?_
 simp [encPg, Tryz.f10]
 skip

end Go.Proofs.YtepbmjchhcmcoaaGreatDoor
end

section
/- The law: texts tell right programs apart. -/
set_option linter.all false
set_option maxHeartbeats 1000000
set_option maxRecDepth 10000
namespace Go.Proofs.YtepbmjchhcmcoaaGreatDoor
open Go Go.Pv
variable (g : Nat → Option (List AV)) (rnd : Bool)

theorem c_law09x_PrintApart (p q : Pg) (hf : fitPg p) (hq : fitPg q) (hres : g 2 = some reservedA) : Valid Tryz.prog (G0 g false) 3 [.agg (encPg p), .agg (encPg q)] (.bool true) := by

 refine valid_of [] Tryz.func3 rfl (by kernel_rfl) ?_
 refine sr fun Z z => ?_
 simp [row_map, encPg, Tryz.f3]
 refine z _ ?_
 clear z Z
 refine AT_seq_k fun K1 hK1 => ?_
 by_cases hc : cntPg p ≤ 600
 have hwp := fewPg_wt hc
 by_cases hcq : cntPg q ≤ 600
 have hwq := fewPg_wt hcq
 cases hr : rightPg p
 refine sr fun Z z => ?_
 simp [row_map, encPg, hc, hcq, hr]
 refine RVn_call (c_law09x_awake g hres) ?_
 simp [row_map, encPg, hc, hcq, hr]
 repeat refine sg ?_
 refine RVn_call ((by have h := c_ref06x_Few g false p hf; simp only [encPg] at h; exact h)) ?_
 simp [row_map, encPg, hc, hcq, hr]
 repeat refine sg ?_
 refine RVn_call ((by have h := c_ref06x_Few g false q hq; simp only [encPg] at h; exact h)) ?_
 simp [row_map, encPg, hc, hcq, hr]
 repeat refine sg ?_
 refine RVn_call ((by have h := c_ref06x_Right g false p (by omega); simp only [encPg] at h; exact h)) ?_
 simp [row_map, encPg, hc, hcq, hr]
 repeat refine sg ?_
 refine z _ ?_
 clear z Z
 refine AT_cond (b := true) (g := none) (by simp [hc, hcq, hr]) (fun hb => ?_) (fun hb => ?_)
 clear hb
 refine sr fun Z z => ?_
 simp [row_map, encPg, hc, hcq, hr]
 refine RVn_call (c_law09x_awake g hres) ?_
 simp [row_map, encPg, hc, hcq, hr]
 refine z _ ?_
 clear z Z
 refine AT_ret ?_
 simp [row_map, encPg, Tryz.f3]
 skip
 cases hb
 cases hrq : rightPg q
 refine sr fun Z z => ?_
 simp [row_map, encPg, hc, hcq, hr, hrq]
 refine RVn_call (c_law09x_awake g hres) ?_
 simp [row_map, encPg, hc, hcq, hr, hrq]
 repeat refine sg ?_
 refine RVn_call ((by have h := c_ref06x_Few g false p hf; simp only [encPg] at h; exact h)) ?_
 simp [row_map, encPg, hc, hcq, hr, hrq]
 repeat refine sg ?_
 refine RVn_call ((by have h := c_ref06x_Few g false q hq; simp only [encPg] at h; exact h)) ?_
 simp [row_map, encPg, hc, hcq, hr, hrq]
 repeat refine sg ?_
 refine RVn_call ((by have h := c_ref06x_Right g false p (by omega); simp only [encPg] at h; exact h)) ?_
 simp [row_map, encPg, hc, hcq, hr, hrq]
 repeat refine sg ?_
 refine RVn_call ((by have h := c_ref06x_Right g false q (by omega); simp only [encPg] at h; exact h)) ?_
 simp [row_map, encPg, hc, hcq, hr, hrq]
 repeat refine sg ?_
 refine z _ ?_
 clear z Z
 refine AT_cond (b := true) (g := none) (by simp [hc, hcq, hr, hrq]) (fun hb => ?_) (fun hb => ?_)
 clear hb
 refine sr fun Z z => ?_
 simp [row_map, encPg, hc, hcq, hr, hrq]
 refine RVn_call (c_law09x_awake g hres) ?_
 simp [row_map, encPg, hc, hcq, hr, hrq]
 refine z _ ?_
 clear z Z
 refine AT_ret ?_
 simp [row_map, encPg, Tryz.f3]
 skip
 cases hb
 refine sr fun Z z => ?_
 simp [row_map, encPg, hc, hcq, hr, hrq]
 refine RVn_call (c_law09x_awake g hres) ?_
 simp [row_map, encPg, hc, hcq, hr, hrq]
 repeat refine sg ?_
 refine RVn_call ((by have h := c_ref06x_Few g false p hf; simp only [encPg] at h; exact h)) ?_
 simp [row_map, encPg, hc, hcq, hr, hrq]
 repeat refine sg ?_
 refine RVn_call ((by have h := c_ref06x_Few g false q hq; simp only [encPg] at h; exact h)) ?_
 simp [row_map, encPg, hc, hcq, hr, hrq]
 repeat refine sg ?_
 refine RVn_call ((by have h := c_ref06x_Right g false p (by omega); simp only [encPg] at h; exact h)) ?_
 simp [row_map, encPg, hc, hcq, hr, hrq]
 repeat refine sg ?_
 refine RVn_call ((by have h := c_ref06x_Right g false q (by omega); simp only [encPg] at h; exact h)) ?_
 simp [row_map, encPg, hc, hcq, hr, hrq]
 repeat refine sg ?_
 refine z _ ?_
 clear z Z
 refine AT_cond (b := false) (g := none) (by simp [hc, hcq, hr, hrq]) (fun hb => ?_) (fun hb => ?_)
 cases hb
 clear hb
 refine AT_skip ?_
 simp only [nrm, reduceIte, Nat.reduceEqDiff]
 refine hK1 _ ?_
 refine AT_seq_draw Pt.mixed (by kernel_rfl) fun Z z => ?_
 obtain ⟨hrm, hrd, hrk⟩ := rightPg_parts hr
 obtain ⟨hsm, hsd, hsk⟩ := rightPg_parts hrq
 have hpp := progT_same hr hrq
 simp [row_map, encPg, hpp, hc, hcq, hr, hrq]
 refine RVdn_call ((by have h := c_print_Program g false p (by omega) hrm hrd; simp only [encPg] at h; exact h)) ?_
 simp [row_map, encPg, hpp, hc, hcq, hr, hrq]
 refine RVdn_call ((by have h := c_print_Program g false q (by omega) hsm hsd; simp only [encPg] at h; exact h)) ?_
 simp [row_map, encPg, hpp, hc, hcq, hr, hrq]
 refine RVdn_call ((by have h := c_ref06x_Same g false p q (by omega); simp only [encPg] at h; exact h)) ?_
 simp [row_map, encPg, hpp, hc, hcq, hr, hrq]
 refine z _ ?_
 clear z Z
 refine AT_ret ?_
 simp [row_map, encPg, Tryz.f3]
 skip
 refine sr fun Z z => ?_
 simp [row_map, encPg, hc, hcq]
 refine RVn_call (c_law09x_awake g hres) ?_
 simp [row_map, encPg, hc, hcq]
 repeat refine sg ?_
 refine RVn_call ((by have h := c_ref06x_Few g false p hf; simp only [encPg] at h; exact h)) ?_
 simp [row_map, encPg, hc, hcq]
 repeat refine sg ?_
 refine RVn_call ((by have h := c_ref06x_Few g false q hq; simp only [encPg] at h; exact h)) ?_
 simp [row_map, encPg, hc, hcq]
 repeat refine sg ?_
 refine z _ ?_
 clear z Z
 refine AT_cond (b := true) (g := none) (by simp [hc, hcq]) (fun hb => ?_) (fun hb => ?_)
 clear hb
 refine sr fun Z z => ?_
 simp [row_map, encPg, hc, hcq]
 refine RVn_call (c_law09x_awake g hres) ?_
 simp [row_map, encPg, hc, hcq]
 refine z _ ?_
 clear z Z
 refine AT_ret ?_
 simp [row_map, encPg, Tryz.f3]
 skip
 cases hb
 refine sr fun Z z => ?_
 simp [row_map, encPg, hc]
 refine RVn_call (c_law09x_awake g hres) ?_
 simp [row_map, encPg, hc]
 repeat refine sg ?_
 refine RVn_call ((by have h := c_ref06x_Few g false p hf; simp only [encPg] at h; exact h)) ?_
 simp [row_map, encPg, hc]
 repeat refine sg ?_
 refine z _ ?_
 clear z Z
 refine AT_cond (b := true) (g := none) (by simp [hc]) (fun hb => ?_) (fun hb => ?_)
 clear hb
 refine sr fun Z z => ?_
 simp [row_map, encPg, hc]
 refine RVn_call (c_law09x_awake g hres) ?_
 simp [row_map, encPg, hc]
 refine z _ ?_
 clear z Z
 refine AT_ret ?_
 simp [row_map, encPg, Tryz.f3]
 skip
 cases hb

end Go.Proofs.YtepbmjchhcmcoaaGreatDoor
end

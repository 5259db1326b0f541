import Derived.Test.YtocmdbojefgpbaaGreatDoorPt
import Derived.Test.YtocmdbojefgpbaaGreatDoorPvPb
import Derived.Test.YtocmdbojefgpbaaGreatDoorPvY
import Derived.Test.YtocmdbojefgpbaaGreatDoorXMgN
import Derived.Test.YtocmdbojefgpbaaGreatDoorXExA
import Derived.Test.YtocmdbojefgpbaaGreatDoorXNaL
import Derived.Test.YtocmdbojefgpbaaGreatDoorPvDe
import Derived.Test.YtocmdbojefgpbaaGreatDoorPvDb
import Derived.Test.YtocmdbojefgpbaaGreatDoorPvMd
import Derived.Test.YtocmdbojefgpbaaGreatDoorXShelf
import Derived.Test.YtocmdbojefgpbaaGreatDoorXLbJ
import Derived.Test.YtocmdbojefgpbaaGreatDoorPvP
import Derived.Test.YtocmdbojefgpbaaGreatDoorXExD
import Derived.Test.YtocmdbojefgpbaaGreatDoorXTyI
section
/- Canonical signatures: the reference, changes. -/
set_option linter.all false
set_option maxHeartbeats 1000000
set_option maxRecDepth 10000
namespace Go.Proofs.YtocmdbojefgpbaaGreatDoor
open Go Go.Pv
variable (g : Nat → Option (List AV)) (rnd : Bool)

theorem locTs_off {r : Nat} (n : Nat) : AV.offLL r ((locTs n).map encTy) = true := by
  rw [offLL_all, List.all_map]
  refine List.all_eq_true.2 fun t ht => ?_
  obtain ⟨i, -, rfl⟩ := List.mem_map.1 ht
  rfl
theorem locTs_cell {lim : Lim} {h : Array Obj} {v : Value} {n k : Nat} (hr : Rep lim h v (.fr 4 24 3 ((locTs n).map encTy))) (hk : k < n) : ∃ b cap, v = .slice (some ⟨b, 0, none⟩) n cap ∧ cellAt h b (k * 3) = some (.string ⟨(locS (k : Nat)).toArray⟩) := by
  obtain ⟨b, cap, h1, -, -, -, h2⟩ := hr.kid (i := k) (r := encTy (.mk (locS (k : Nat)) [] 0)) (fun x hx => by obtain ⟨y, _, rfl⟩ := List.mem_map.1 hx; exact encTy_len y) (by rw [List.getElem?_map]; simp [locTs, hk])
  simp only [List.length_map, locTs_len] at h1
  obtain ⟨u, h3, h4⟩ := h2.2 0 (.str (locS (k : Nat))) rfl
  cases h4
  exact ⟨b, cap, h1, h3⟩
theorem canW3' {lim : Lim} {b5 b cap k n m : Nat} {cur : Array Value} {e : TypeId} (a : Act) (w : World) (hsz : a.tmps.size = 57) (h5 : a.tmps.getD 5 undef = .pointer (some ⟨b5, 0, none⟩)) (h6 : a.tmps.getD 6 undef = .int .i64 k) (h3 : Rep lim w.heap (a.tmps.getD 3 undef) (.fr 4 24 3 ((locTs m).map encTy))) (hkm2 : k < m)
    (hc : cellAt w.heap b5 1 = some (.slice (some ⟨b, 0, none⟩) n cap)) (hb : w.heap[b]? = some (.cells cur e (0, 0))) (hcs : cur.size = cap * 5) (hn : n ≤ cap) (hcap : cap ≤ maxLen) (hk : k < n) (hkm : n ≤ 1000000000) (hbne : b ≠ b5) :
    (canQ 10).wp Tryz.prog (fun e2 a' w' => e2 = .normal ∧ (∃ u, St1 w w' b (k * 5 + 0) u ∧ Rep lim w'.heap u (.str (locS (k : Nat)))) ∧ a'.tmps.size = a.tmps.size ∧ a'.defers = a.defers ∧ ∀ t ∈ [2, 3, 5, 6], a'.tmps.getD t undef = a.tmps.getD t undef) a w := by
  obtain ⟨b3, cl, h8, h9⟩ := locTs_cell h3 hkm2
  exact canW3 a w hsz h5 h6 h8 hkm2 (by rw [cell?_eq]; exact h9) hc hb hcs hn hcap hk hkm hbne

theorem c_ref10x_Canon (s : Sg) (hw : wtG s ≤ 100000) (hp : GlPlain (GT g)) : ValidU Tryz.prog (GT g) 41 [.agg (encG s)] (.agg (encGQ (canonG s))) := by
 have hw2 : s.name.length + 1 + wtFs s.fms + wtFs s.pms + wt s.res ≤ 100000 := hw
 have hl1 := wtFs_len s.fms
 have hl2 := wtFs_len s.pms
 obtain ⟨G, hG⟩ : ∃ G, (subG (fmNs s) (locTs s.fms.length) s) = G := ⟨_, rfl⟩
 have hG1 : G.fms.length = s.fms.length := by rw [← hG]; simp [subG]
 have hG2 : G.pms.length = s.pms.length := by rw [← hG]; simp [subG]
 have hez : esz Tryz.prog 24 = 3 := by kernel_rfl
 refine validU_of [(3, 24)] Tryz.func41 rfl (by kernel_rfl) ?_
 refine sr fun Z z => ?_
 simp [row_map, encG, Tryz.f41]
 refine z _ ?_
 clear z Z
 refine sr fun Z z => ?_
 simp [row_map, encG]
 refine z _ ?_
 clear z Z
 refine AT_seq_k fun K1 hK1 => ?_
 refine sr fun Z z => ?_
 simp [row_map, encG]
 refine z _ ?_
 clear z Z
 refine AT_block ?_
 refine AT_loop_q [1,2,3,4] [1,2] (fun j st => ∃ k, k ≤ s.fms.length ∧ j = s.fms.length - k ∧ st = { n := 57, tm := [(1, .lp 1 0), (2, .lp 2 0), (3, .v (.slice ((locTs k).map encTy)) (some (3, 24))), (4, .v (.int .i64 k) none)], bx := [(1, encG s), (2, [.str [], .slice [], .slice [], .str [], .slice [], .int .i64 0, .int .i64 0])], tb := [], sh := [], hint := [(3, 24)] }) (s.fms.length) (by first | rfl | simp) ?_ ?_
 exact ⟨0, by simp [encG, locTs]⟩
 rintro j st ⟨k, hk, rfl, rfl⟩ K2 hK2
 refine AT_seq_k fun K3 hK3 => ?_
 refine sr fun Z z => ?_
 simp [row_map, encG]
 repeat refine sg ?_
 refine z _ ?_
 clear z Z
 refine AT_cond (g := none) rfl (fun hb12 => ?_) (fun hb12 => ?_)
 try simp [row_map, encG] at hb12
 refine AT_skip ?_
 try simp only [nrm, reduceIte, Nat.reduceEqDiff]
 refine hK3 _ ?_
 refine AT_seq_k fun K4 hK4 => ?_
 refine AT_block ?_
 refine AT_region_q fun Z z => ?_
 simp [row_map, encG, hb12]
 repeat refine sg ?_
 refine RVn_call ((c_ref01x_Local g false (k : Nat) (by omega)).gl rfl) ?_
 simp [row_map, encG, hb12]
 repeat refine sg ?_
 refine z _ ?_
 clear z Z
 try simp only [nrm, reduceIte, Nat.reduceEqDiff]
 refine hK4 _ ?_
 refine AT_region_q fun Z z => ?_
 simp [row_map, encG, hb12]
 repeat refine sg ?_
 refine z _ ?_
 clear z Z
 try simp only [nrm, reduceIte, Nat.reduceEqDiff]
 refine hK2 _ (by first | rfl | simp) (s.fms.length - (k+1)) (by omega) ?_
 exact ⟨k+1, by omega, by omega, by simp [encG, locTs_succ, encTy_mk]⟩
 try simp [row_map, encG] at hb12
 refine AT_exit ?_
 try simp only [nrm, reduceIte, Nat.reduceEqDiff]
 refine hK1 _ ?_
 refine AT_seq_draw_m true [] Pt.mixed (by kernel_rfl) ⟨by simp [Im, okP, AS.get, look, TV.strip], fun _ => NoC_of (by simp [isCl])⟩ fun Z z => ?_
 have hk9 : k = s.fms.length := by omega
 subst hk9
 have hB : ∀ a ∈ locTs s.fms.length, wt a ≤ 1099511627776 := locTs_small (by omega)
 simp [row_map, encG, hb12]
 repeat refine sg ?_
 refine RVdn_call ((c_ref10x_Names g false s.fms (by omega)).gl rfl) ?_
 simp [row_map, encG, hb12]
 repeat refine sg ?_
 refine RVdn_call ((by have h := newG hp rfl (c_ref10x_Subst g false (fmNs s) (locTs s.fms.length) (by simp [fmNs]; omega) hB (by rw [locTs_len]; omega) (by simp [fmNs]) s (by omega)) (argsP s); rw [hG] at h; simp only [encG, encTy_def, fmNs, List.map_map] at h; exact h)) ?_
 simp [row_map, encG, hb12]
 repeat refine sg ?_
 refine z _ ?_
 clear z Z
 refine AT_seq_k fun K5 hK5 => ?_
 refine AT_sealT 3 3 24 4 rfl (by rfl) ?_
 simp [AS.purge, hez]
 refine sr fun Z z => ?_
 simp [row_map, encG, hb12]
 refine z _ ?_
 clear z Z
 refine AT_block ?_
 refine AT_loop_q [2,3,5,6] [2,5] (fun j st => ∃ k, k ≤ G.fms.length ∧ j = G.fms.length - k ∧ st = { n := 57, tm := [(2, .lp 2 0), (3, .v (.fr 4 24 3 ((locTs s.fms.length).map encTy)) none), (5, .lp 5 0), (6, .v (.int .i64 k) none)], bx := [(2, [.str [], .slice [], .slice [], .str [], .slice [], .int .i64 0, .int .i64 0]), (5, encGQ (can1 k G))], tb := [], sh := [], hint := [(3, 24)] }) (G.fms.length) (by first | rfl | simp) ?_ ?_
 exact ⟨0, by first | (· simp [can1_zero]) | (simp [can1_zero]; rfl)⟩
 rintro j st ⟨k, hk, rfl, rfl⟩ K6 hK6
 refine AT_seq_k fun K7 hK7 => ?_
 refine sr fun Z z => ?_
 simp [row_map, encG, encGQ, can1, hb12]
 repeat refine sg ?_
 refine z _ ?_
 clear z Z
 refine AT_cond (g := none) rfl (fun hb31 => ?_) (fun hb31 => ?_)
 try simp [row_map, encG, hb12] at hb31
 refine AT_skip ?_
 try simp only [nrm, reduceIte, Nat.reduceEqDiff]
 refine hK7 _ ?_
 refine AT_seq_k fun K8 hK8 => ?_
 refine AT_block ?_
 have hkG : k < G.fms.length := by omega
 have hkH : G.fms.length ≤ 1000000000 := by omega
 refine AT_redo1 (c0 := encGQ (can1 k G)) [2, 3, 5, 6] [2, 5] 1 5 1 0 k (nmAV (renF (k + 1) G.fms)) (.str (locS (k : Nat))) (by first | rfl | simp) rfl rfl rfl (by first | rfl | simp [AS.keep, pick, look]) rfl (by decide) (by simp; exact hkG) (encFQ_row _) (by first | (· simp) | (simp; rfl)) (ren_at hkG) (ren_else (k := k) (l := G.fms)) (encFQ_lo (by decide) _) (by simp [AS.keep, pick, look]; first | (simp only [AS.killOk, List.all_cons, List.all_nil, encGQ_oo, Bool.and_true, Bool.true_and] <;> rfl) | simp [AS.killOk, AV.one]) rfl rfl ?_ (fun lim bl a w b cap cur hsz ht hlp hbx hgl hc hb hcs hn hcap hlb hbne => can_wp_of_eq (c := canQ 10) (by kernel_rfl) (canW3' a w hsz (hlp 5 5 0 rfl) (rep_int (ht 6 (.int .i64 k) none rfl)) (ht 3 (.fr 4 24 3 ((locTs s.fms.length).map encTy)) none rfl) (by omega) hc hb hcs hn hcap (by simp; exact hkG) (by simp; exact hkH) hbne)) (by decide)
 simp [AS.redo, AS.keep, pick, look, TV.kill, AV.kill, AV.off, redo_ren, locTs_off]
 try simp only [nrm, reduceIte, Nat.reduceEqDiff]
 refine hK8 _ ?_
 refine AT_region_q fun Z z => ?_
 simp [row_map, encG, hb12, hb31]
 repeat refine sg ?_
 refine z _ ?_
 clear z Z
 try simp only [nrm, reduceIte, Nat.reduceEqDiff]
 refine hK6 _ (by first | rfl | simp) (G.fms.length - (k+1)) (by omega) ?_
 exact ⟨k+1, by omega, by omega, by simp⟩
 try simp [row_map, encG, hb12] at hb31
 refine AT_exit ?_
 try simp only [nrm, reduceIte, Nat.reduceEqDiff]
 refine hK5 _ ?_
 refine AT_seq_k fun K9 hK9 => ?_
 refine sr fun Z z => ?_
 simp [row_map, encG, hb12, hb31]
 refine z _ ?_
 clear z Z
 refine AT_block ?_
 refine AT_loop_q [2,5,7] [2,5] (fun j st => ∃ k, k ≤ G.pms.length ∧ j = G.pms.length - k ∧ st = { n := 57, tm := [(2, .lp 2 0), (5, .lp 5 0), (7, .v (.int .i64 k) none)], bx := [(2, [.str [], .slice [], .slice [], .str [], .slice [], .int .i64 0, .int .i64 0]), (5, encGQ (can2 k (can1 G.fms.length G)))], tb := [], sh := [], hint := [(3, 24)] }) (G.pms.length) (by first | rfl | simp) ?_ ?_
 have hk9 : k = G.fms.length := by omega
 subst hk9
 exact ⟨0, by first | (· simp [can2_zero]) | (simp [can2_zero]; rfl)⟩
 rintro j st ⟨k, hk, rfl, rfl⟩ K10 hK10
 refine AT_seq_k fun K11 hK11 => ?_
 refine sr fun Z z => ?_
 simp [row_map, encG, encGQ, can1, can2, hb12, hb31]
 repeat refine sg ?_
 refine z _ ?_
 clear z Z
 refine AT_cond (g := none) rfl (fun hb48 => ?_) (fun hb48 => ?_)
 try simp [row_map, encG, hb12, hb31] at hb48
 refine AT_skip ?_
 try simp only [nrm, reduceIte, Nat.reduceEqDiff]
 refine hK11 _ ?_
 refine AT_seq_k fun K12 hK12 => ?_
 refine AT_block ?_
 have hkG : k < G.pms.length := by omega
 have hkH : G.pms.length ≤ 1000000000 := by omega
 refine AT_redo1 (c0 := encGQ (can2 k (can1 G.fms.length G))) [2, 5, 7] [2, 5] 2 5 2 0 k (nmAV (barF (k + 1) G.pms)) (.str []) (by first | rfl | simp) rfl rfl rfl (by first | rfl | simp [AS.keep, pick, look]) rfl (by decide) (by simp; exact hkG) (encFQ_row _) (by first | (· simp) | (simp; rfl)) (bar_at hkG) (bar_else (k := k) (l := G.pms)) (encFQ_lo (by decide) _) (by simp [AS.keep, pick, look]; first | (simp only [AS.killOk, List.all_cons, List.all_nil, encGQ_oo, Bool.and_true, Bool.true_and] <;> rfl) | simp [AS.killOk, AV.one]) rfl rfl ?_ (fun lim bl a w b cap cur hsz ht hlp hbx hgl hc hb hcs hn hcap hlb hbne => can_wp_of_eq (c := canQ 14) (by kernel_rfl) (canW4 a w hsz (hlp 5 5 0 rfl) (rep_int (ht 7 (.int .i64 k) none rfl))  hc hb hcs hn hcap (by simp; exact hkG) (by simp; exact hkH) hbne)) (by decide)
 simp [AS.redo, AS.keep, pick, look, TV.kill, AV.kill, AV.off, redo_bar, redo_bar2]
 try simp only [nrm, reduceIte, Nat.reduceEqDiff]
 refine hK12 _ ?_
 refine AT_region_q fun Z z => ?_
 simp [row_map, encG, hb12, hb31, hb48]
 repeat refine sg ?_
 refine z _ ?_
 clear z Z
 try simp only [nrm, reduceIte, Nat.reduceEqDiff]
 refine hK10 _ (by first | rfl | simp) (G.pms.length - (k+1)) (by omega) ?_
 exact ⟨k+1, by omega, by omega, by simp⟩
 try simp [row_map, encG, hb12, hb31] at hb48
 refine AT_exit ?_
 try simp only [nrm, reduceIte, Nat.reduceEqDiff]
 refine hK9 _ ?_
 refine sr fun Z z => ?_
 simp [row_map, encG, hb12, hb31, hb48]
 repeat refine sg ?_
 refine z _ ?_
 clear z Z
 refine AT_ret ?_
 simp [row_map, encG, Tryz.f41]
 have hk9 : k = G.pms.length := by omega
 subst hk9
 have hfin : encGQ (can2 G.pms.length (can1 G.fms.length G)) = encGQ (canonG s) := by rw [show canonG s = ⟨G.name, locFs G.fms, bareFs G.pms, G.res, G.pos⟩ by rw [← hG]; rfl, can_all]
 exact hfin

theorem c_ref10x_Canon_v (s : Sg) (hw : wtG s ≤ 100000) (hp : GlPlain (GT g)) : Valid Tryz.prog (G0 g rnd) 41 [.agg (encG s)] (.agg (encG (canonG s))) := canon_plain hp rfl (c_ref10x_Canon g s hw hp)

end Go.Proofs.YtocmdbojefgpbaaGreatDoor
end

section
/- Contracts. -/
set_option linter.all false
set_option maxHeartbeats 1000000
set_option maxRecDepth 10000
namespace Go.Proofs.YtocmdbojefgpbaaGreatDoor
open Go Go.Pv
variable (g : Nat → Option (List AV)) (rnd : Bool)

theorem rightT_len {t : Ty} (hw : wt t ≤ 1099511627776) : ∀ s ∈ lst t, s.length ≤ 1099511627776 := fun s hs => Nat.le_trans (Nat.le_of_lt (lst_mem_wt t s hs)) hw

theorem c_ref04x_Right (t : Ty) (hw : wt t ≤ 1099511627776) : Valid Tryz.prog (G0 g rnd) 26 [.agg (encTy t)] (.bool (rightT t)) := by

 refine valid_of [] Tryz.func26 rfl (by kernel_rfl) ?_
 refine sr fun Z z => ?_
 simp [row_map, Tryz.f26]
 refine z _ ?_
 clear z Z
 refine sr fun Z z => ?_
 have hll := lst_wt t
 simp [row_map]
 repeat refine sg ?_
 refine RVn_call (c_ref04x_List g rnd t hw) ?_
 simp [row_map]
 repeat refine sg ?_
 refine z _ ?_
 clear z Z
 refine AT_seq_k fun K1 hK1 => ?_
 refine sr fun Z z => ?_
 simp [row_map]
 refine z _ ?_
 clear z Z
 refine AT_block ?_
 refine AT_loop_q [3,4] [] (fun j s => ∃ k, k ≤ (lst t).length ∧ rightT t = ((lst t).drop k).all isName ∧ j = (lst t).length - k ∧ s = { n := 19, tm := [(3, .v (.slice ((lst t).map encS)) none), (4, .v (.int .i64 k) none)], bx := [], tb := [], sh := [], hint := [] }) ((lst t).length) (by first | rfl | simp) ?_ ?_
 exact ⟨0, by simp [rightT]⟩
 rintro j s ⟨k, hk, hc, rfl, rfl⟩ K2 hK2
 refine AT_seq_k fun K3 hK3 => ?_
 refine sr fun Z z => ?_
 have hll := lst_wt t
 simp [row_map]
 repeat refine sg ?_
 refine z _ ?_
 clear z Z
 refine AT_cond (g := none) rfl (fun hb10 => ?_) (fun hb10 => ?_)
 try simp [row_map] at hb10
 refine AT_skip ?_
 try simp only [nrm, reduceIte, Nat.reduceEqDiff]
 refine hK3 _ ?_
 refine AT_seq_k fun K4 hK4 => ?_
 refine AT_block ?_
 refine sr fun Z z => ?_
 have hda := List.drop_eq_getElem_cons hb10
 simp [row_map, hb10]
 repeat refine sg ?_
 refine RVn_call (c_ref01x_Is g rnd _ (Nat.le_trans (rightT_len hw _ (by simp)) (by decide))) ?_
 simp [row_map, hb10]
 repeat refine sg ?_
 refine z _ ?_
 clear z Z
 refine AT_cond (g := none) rfl (fun hb18 => ?_) (fun hb18 => ?_)
 try simp [row_map, hb10] at hb18
 refine sr fun Z z => ?_
 simp [row_map, hb10]
 refine z _ ?_
 clear z Z
 refine AT_ret ?_
 simp [row_map, Tryz.f26]
 first
 | (rw [hc, hda, List.all_cons, hb18]; rfl)
 | (rw [hc, List.drop_eq_nil_of_le hb10]; rfl)
 try simp [row_map, hb10] at hb18
 refine AT_skip ?_
 try simp only [nrm, reduceIte, Nat.reduceEqDiff]
 refine hK4 _ ?_
 refine AT_region_q fun Z z => ?_
 simp [row_map, hb10]
 repeat refine sg ?_
 refine z _ ?_
 clear z Z
 try simp only [nrm, reduceIte, Nat.reduceEqDiff]
 refine hK2 _ (by first | rfl | simp) ((lst t).length - (k+1)) (by omega) ?_
 refine ⟨k+1, by omega, ?_, by omega, by simp⟩
 rw [hc, hda, List.all_cons, hb18, Bool.true_and]
 try simp [row_map] at hb10
 refine AT_exit ?_
 try simp only [nrm, reduceIte, Nat.reduceEqDiff]
 refine hK1 _ ?_
 refine sr fun Z z => ?_
 simp [row_map, hb10]
 refine z _ ?_
 clear z Z
 refine AT_ret ?_
 simp [row_map, Tryz.f26]
 first
 | (rw [hc, hda, List.all_cons, hb18]; rfl)
 | (rw [hc, List.drop_eq_nil_of_le hb10]; rfl)

end Go.Proofs.YtocmdbojefgpbaaGreatDoor
end

section
/- Contracts: the reference compares declarations. -/
set_option linter.all false
set_option maxHeartbeats 1000000
set_option maxRecDepth 10000
namespace Go.Proofs.YtocmdbojefgpbaaGreatDoor
open Go Go.Pv
variable (g : Nat → Option (List AV)) (rnd : Bool)

end Go.Proofs.YtocmdbojefgpbaaGreatDoor
end

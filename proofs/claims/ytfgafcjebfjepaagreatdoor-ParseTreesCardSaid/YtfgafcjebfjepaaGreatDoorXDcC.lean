import Derived.Test.YtfgafcjebfjepaaGreatDoorPt
import Derived.Test.YtfgafcjebfjepaaGreatDoorPvPb
import Derived.Test.YtfgafcjebfjepaaGreatDoorPvLa
import Derived.Test.YtfgafcjebfjepaaGreatDoorXShelf
import Derived.Laws.CopyOwn
import Derived.Laws.MakeOwn
import Derived.Deep.RegionLaw
import Derived.Lib.SlBuf
import Derived.WalkKit
import Derived.Test.YtfgafcjebfjepaaGreatDoorXExA
import Derived.Test.YtfgafcjebfjepaaGreatDoorXTyD
import Derived.Test.YtfgafcjebfjepaaGreatDoorXDcB
import Derived.Test.YtfgafcjebfjepaaGreatDoorXRdH
import Derived.Test.YtfgafcjebfjepaaGreatDoorXNaB
section
/- slices.Repeat at one expression that is zero: as many zero expressions. -/
set_option linter.all false
set_option maxHeartbeats 1000000
set_option maxRecDepth 10000
namespace Go.Proofs.YtfgafcjebfjepaaGreatDoor
open Go Go.Pv
variable (g : Nat → Option (List AV)) (rnd : Bool)

open Go.RowKit
def ZR (j : Nat) (v : Value) : Prop := match j with
  | 0 => v = .int .i64 0
  | 1 => v = .string ⟨#[]⟩
  | 2 => v = .string ⟨#[]⟩
  | 3 => ∃ p c, v = .slice p 0 c
  | 4 => v = .int .i64 0
  | 5 => ∃ p c, v = .slice p 0 c
  | 6 => ∃ p c, v = .slice p 0 c
  | _ => v = .int .i64 0
def PZ (n : Nat) (cur : List Value) : Prop := cur.length = 8 * n ∧ ∀ j v, cur[j]? = some v → ZR (j % 8) v
def rep_z : Value := .agg #[.int .i64 0, .string ⟨#[]⟩, .string ⟨#[]⟩, .slice none 0 0, .int .i64 0, .slice none 0 0, .slice none 0 0, .int .i64 0]
def enc0 : List AV := [.int .i64 0, .str [], .str [], .slice [], .int .i64 0, .slice [], .slice [], .int .i64 0]
def ZA : Nat → AV
  | 0 => .int .i64 0
  | 1 => .str []
  | 2 => .str []
  | 3 => .slice []
  | 4 => .int .i64 0
  | 5 => .slice []
  | 6 => .slice []
  | _ => .int .i64 0
end Go.Proofs.YtfgafcjebfjepaaGreatDoor
end

section
/- Contracts: expressions, shown and measured. -/
set_option linter.all false
set_option maxHeartbeats 1000000
set_option maxRecDepth 10000
namespace Go.Proofs.YtfgafcjebfjepaaGreatDoor
open Go Go.Pv
variable (g : Nat → Option (List AV)) (rnd : Bool)

theorem c_ref05x_Equal : ∀ e f : Exp, wtE e ≤ 1000000000 → Valid Tryz.prog (G0 g rnd) 34 [.agg (encE e), .agg (encE f)] (.bool (eqE e f)) := by
 intro e
 induction e using Exp.ind with
 | h kd n t ta l p ih =>
 intro f hw
 obtain ⟨kf, m, u, ua, ul, q⟩ := f
 have hw2 : n.length + 1 + wt t + wts ta + wtEs l ≤ 1000000000 := by simpa [wtE_mk] using hw
 have hln := wtEs_len l
 have hla := wts_len ta
 refine valid_of [] Tryz.func34 rfl (by kernel_rfl) ?_
 refine sr fun Z z => ?_
 simp [row_map, Tryz.f34]
 refine z _ ?_
 clear z Z
 refine AT_seq_k fun K1 hK1 => ?_
 cases h1 : (p != q)
 cases h2 : (kd != kf)
 cases h3 : (n == m)
 refine sr fun Z z => ?_
 simp [row_map, h1, h2, h3]
 refine z _ ?_
 clear z Z
 refine cT (by simp [h1, h2, h3]) ?_
 refine sr fun Z z => ?_
 simp [row_map, h1, h2, h3]
 refine z _ ?_
 clear z Z
 refine AT_ret ?_
 simp [row_map, Tryz.f34]
 (· simp [eqE, h3])
 cases h4 : (eqT t u)
 refine sr fun Z z => ?_
 simp [row_map, h1, h2, h3, h4]
 refine RVn_call (c_ref04x_Equal g rnd t u (by omega)) ?_
 simp [row_map, h1, h2, h3, h4]
 repeat refine sg ?_
 refine z _ ?_
 clear z Z
 refine cT (by simp [h1, h2, h3, h4]) ?_
 refine sr fun Z z => ?_
 simp [row_map, h1, h2, h3, h4]
 refine z _ ?_
 clear z Z
 refine AT_ret ?_
 simp [row_map, Tryz.f34]
 (· simp [eqE, h4])
 by_cases h5 : (ta.length : Int) = ua.length
 have h5b : ((ta.length : Int) != ua.length) = false := by simpa using h5
 by_cases h6 : (l.length : Int) = ul.length
 have h6b : ((l.length : Int) != ul.length) = false := by simpa using h6
 refine sr fun Z z => ?_
 simp [row_map, h1, h2, h3, h4, h5b, h6b]
 refine RVn_call (c_ref04x_Equal g rnd t u (by omega)) ?_
 simp [row_map, h1, h2, h3, h4, h5b, h6b]
 repeat refine sg ?_
 refine z _ ?_
 clear z Z
 refine cF (by simp [h1, h2, h3, h4, h5b, h6b]) ?_
 refine AT_skip ?_
 refine hK1 _ ?_
 refine AT_seq_k fun K2 hK2 => ?_
 refine sr fun Z z => ?_
 simp [row_map, h1, h2, h3, h4, h5b, h6b]
 refine z _ ?_
 clear z Z
 refine AT_block ?_
 refine AT_loop_q [2,3,5] [2,3] (fun j s => ∃ k, k ≤ ta.length ∧ eqTs ta ua = eqTs (ta.drop k) (ua.drop k) ∧ j = ta.length - k ∧ s = { n := 90, tm := [(2, .lp 2 0), (3, .lp 3 0), (5, .v (.int .i64 k) none)], bx := [(2, encE (.mk kd n t ta l p)), (3, encE (.mk kf m u ua ul q))], tb := [], sh := [], hint := [] }) (ta.length) (by first | rfl | simp) ?_ ?_
 exact ⟨0, by simp⟩
 rintro j s ⟨k, hk, hc, rfl, rfl⟩ K3 hK3
 refine AT_seq_k fun K4 hK4 => ?_
 refine sr fun Z z => ?_
 simp [row_map, h1, h2, h3, h4, h5b, h6b]
 refine z _ ?_
 clear z Z
 refine AT_cond (g := none) rfl (fun hb56 => ?_) (fun hb56 => ?_)
 simp [row_map, h1, h2, h3, h4, h5b, h6b] at hb56
 refine AT_skip ?_
 refine hK4 _ ?_
 refine AT_seq_k fun K5 hK5 => ?_
 refine AT_block ?_
 refine AT_seq_draw Pt.mixed (by kernel_rfl) fun Z z => ?_
 have hku : k < ua.length := by omega
 have hm := wts_mem (l := ta) (t := ta[k]) (by simp)
 have hda := List.drop_eq_getElem_cons hb56
 have hdb := List.drop_eq_getElem_cons hku
 simp [row_map, hku, h1, h2, h3, h4, h5b, h6b, hb56]
 refine RVdn_call (c_ref04x_Equal g rnd ta[k] ua[k] (by omega)) ?_
 simp [row_map, hku, h1, h2, h3, h4, h5b, h6b, hb56]
 refine z _ ?_
 clear z Z
 refine AT_cond (g := none) rfl (fun hb70 => ?_) (fun hb70 => ?_)
 simp [row_map, h1, h2, h3, h4, h5b, h6b, hb56] at hb70
 refine sr fun Z z => ?_
 simp [row_map, h1, h2, h3, h4, h5b, h6b, hb56, hb70]
 refine z _ ?_
 clear z Z
 refine AT_ret ?_
 simp [row_map, Tryz.f34]
 (· have he : eqE (.mk kd n t ta l p) (.mk kf m u ua ul q) = (eqTs ta ua && eqEs l ul) := by simp [eqE, show (p == q) = true by simpa using h1, show (kd == kf) = true by simpa using h2, h3, h4]
    rw [he, hc, hda, hdb, eqTs_cons]; simp [hb70])
 simp [row_map, h1, h2, h3, h4, h5b, h6b, hb56] at hb70
 refine AT_skip ?_
 refine hK5 _ ?_
 refine AT_region_q fun Z z => ?_
 simp [row_map, h1, h2, h3, h4, h5b, h6b, hb56, hb70]
 repeat refine sg ?_
 refine z _ ?_
 clear z Z
 refine hK3 _ (by first | rfl | simp) (ta.length - (k+1)) (by omega) ?_
 refine ⟨k+1, by omega, ?_, by omega, by simp⟩
 rw [hc, hda, hdb, eqTs_cons]; simp [hb70]
 simp [row_map, h1, h2, h3, h4, h5b, h6b] at hb56
 refine AT_exit ?_
 refine hK2 _ ?_
 refine AT_seq_k fun K6 hK6 => ?_
 refine sr fun Z z => ?_
 simp [row_map, h1, h2, h3, h4, h5b, h6b, hb56]
 refine z _ ?_
 clear z Z
 refine AT_block ?_
 have hT : eqTs ta ua = true := by rw [hc, List.drop_eq_nil_of_le hb56, List.drop_eq_nil_of_le (show ua.length ≤ k by omega)]; simp [eqTs]
 refine AT_loop_q [2,3,6] [2,3] (fun j s => ∃ k, k ≤ l.length ∧ eqEs l ul = eqEs (l.drop k) (ul.drop k) ∧ j = l.length - k ∧ s = { n := 90, tm := [(2, .lp 2 0), (3, .lp 3 0), (6, .v (.int .i64 k) none)], bx := [(2, encE (.mk kd n t ta l p)), (3, encE (.mk kf m u ua ul q))], tb := [], sh := [], hint := [] }) (l.length) (by first | rfl | simp) ?_ ?_
 have hT : eqTs ta ua = true := by rw [hc, List.drop_eq_nil_of_le hb56, List.drop_eq_nil_of_le (show ua.length ≤ k by omega)]; simp [eqTs]
 exact ⟨0, by simp⟩
 rintro j s ⟨k, hk, hc2, rfl, rfl⟩ K7 hK7
 refine AT_seq_k fun K8 hK8 => ?_
 refine sr fun Z z => ?_
 simp [row_map, h1, h2, h3, h4, h5b, h6b, hb56]
 refine z _ ?_
 clear z Z
 refine AT_cond (g := none) rfl (fun hb75 => ?_) (fun hb75 => ?_)
 simp [row_map, h1, h2, h3, h4, h5b, h6b, hb56] at hb75
 refine AT_skip ?_
 refine hK8 _ ?_
 refine AT_seq_k fun K9 hK9 => ?_
 refine AT_block ?_
 refine AT_seq_draw Pt.mixed (by kernel_rfl) fun Z z => ?_
 have hku : k < ul.length := by omega
 have hm := wtEs_mem (l := l) (e := l[k]) (by simp)
 have hda := List.drop_eq_getElem_cons hb75
 have hdb := List.drop_eq_getElem_cons hku
 simp [row_map, hku, h1, h2, h3, h4, h5b, h6b, hb56, hb75]
 refine RVdn_call (ih l[k] (by simp) ul[k] (by omega)) ?_
 simp [row_map, hku, h1, h2, h3, h4, h5b, h6b, hb56, hb75]
 refine z _ ?_
 clear z Z
 refine AT_cond (g := none) rfl (fun hb89 => ?_) (fun hb89 => ?_)
 simp [row_map, h1, h2, h3, h4, h5b, h6b, hb56, hb75] at hb89
 refine sr fun Z z => ?_
 simp [row_map, h1, h2, h3, h4, h5b, h6b, hb56, hb75, hb89]
 refine z _ ?_
 clear z Z
 refine AT_ret ?_
 simp [row_map, Tryz.f34]
 (· have he : eqE (.mk kd n t ta l p) (.mk kf m u ua ul q) = (eqTs ta ua && eqEs l ul) := by simp [eqE, show (p == q) = true by simpa using h1, show (kd == kf) = true by simpa using h2, h3, h4]
    rw [he, hT, hc2, hda, hdb, eqEs_cons]; simp [hb89])
 simp [row_map, h1, h2, h3, h4, h5b, h6b, hb56, hb75] at hb89
 refine AT_skip ?_
 refine hK9 _ ?_
 refine AT_region_q fun Z z => ?_
 simp [row_map, h1, h2, h3, h4, h5b, h6b, hb56, hb75, hb89]
 repeat refine sg ?_
 refine z _ ?_
 clear z Z
 refine hK7 _ (by first | rfl | simp) (l.length - (k+1)) (by omega) ?_
 refine ⟨k+1, by omega, ?_, by omega, by simp⟩
 rw [hc2, hda, hdb, eqEs_cons]; simp [hb89]
 simp [row_map, h1, h2, h3, h4, h5b, h6b, hb56] at hb75
 refine AT_exit ?_
 refine hK6 _ ?_
 refine sr fun Z z => ?_
 simp [row_map, h1, h2, h3, h4, h5b, h6b, hb56, hb75]
 refine z _ ?_
 clear z Z
 refine AT_ret ?_
 simp [row_map, Tryz.f34]
 (· have he : eqE (.mk kd n t ta l p) (.mk kf m u ua ul q) = (eqTs ta ua && eqEs l ul) := by simp [eqE, show (p == q) = true by simpa using h1, show (kd == kf) = true by simpa using h2, h3, h4]
    rw [he, hT, hc2, List.drop_eq_nil_of_le hb75, List.drop_eq_nil_of_le (show ul.length ≤ k by omega)]; simp [eqEs])
 have h6b : ((l.length : Int) != ul.length) = true := by simpa using h6
 refine sr fun Z z => ?_
 simp [row_map, h1, h2, h3, h4, h5b, h6b]
 refine RVn_call (c_ref04x_Equal g rnd t u (by omega)) ?_
 simp [row_map, h1, h2, h3, h4, h5b, h6b]
 repeat refine sg ?_
 refine z _ ?_
 clear z Z
 refine cT (by simp [h1, h2, h3, h4, h5b, h6b]) ?_
 refine sr fun Z z => ?_
 simp [row_map, h1, h2, h3, h4, h5b, h6b]
 refine z _ ?_
 clear z Z
 refine AT_ret ?_
 simp [row_map, Tryz.f34]
 (· simp [eqE, eqEs_len (show l.length ≠ ul.length by omega)])
 have h5b : ((ta.length : Int) != ua.length) = true := by simpa using h5
 refine sr fun Z z => ?_
 simp [row_map, h1, h2, h3, h4, h5b]
 refine RVn_call (c_ref04x_Equal g rnd t u (by omega)) ?_
 simp [row_map, h1, h2, h3, h4, h5b]
 repeat refine sg ?_
 refine z _ ?_
 clear z Z
 refine cT (by simp [h1, h2, h3, h4, h5b]) ?_
 refine sr fun Z z => ?_
 simp [row_map, h1, h2, h3, h4, h5b]
 refine z _ ?_
 clear z Z
 refine AT_ret ?_
 simp [row_map, Tryz.f34]
 (· simp [eqE, eqTs_len (show ta.length ≠ ua.length by omega)])
 refine sr fun Z z => ?_
 simp [row_map, h1, h2]
 refine z _ ?_
 clear z Z
 refine cT (by simp [h1, h2]) ?_
 refine sr fun Z z => ?_
 simp [row_map, h1, h2]
 refine z _ ?_
 clear z Z
 refine AT_ret ?_
 simp [row_map, Tryz.f34]
 (· simp [eqE, show (kd == kf) = false by simpa using h2])
 refine sr fun Z z => ?_
 simp [row_map, h1]
 refine z _ ?_
 clear z Z
 refine cT (by simp [h1]) ?_
 refine sr fun Z z => ?_
 simp [row_map, h1]
 refine z _ ?_
 clear z Z
 refine AT_ret ?_
 simp [row_map, Tryz.f34]
 (· simp [eqE, show (p == q) = false by simpa using h1])

end Go.Proofs.YtfgafcjebfjepaaGreatDoor
end

section
/- Contracts: right expressions. -/
set_option linter.all false
set_option maxHeartbeats 1000000
set_option maxRecDepth 10000
namespace Go.Proofs.YtfgafcjebfjepaaGreatDoor
open Go Go.Pv
variable (g : Nat → Option (List AV)) (rnd : Bool)

end Go.Proofs.YtfgafcjebfjepaaGreatDoor
end

section
/- Contracts: right declarations. -/
set_option linter.all false
set_option maxHeartbeats 1000000
set_option maxRecDepth 10000
namespace Go.Proofs.YtfgafcjebfjepaaGreatDoor
open Go Go.Pv
variable (g : Nat → Option (List AV)) (rnd : Bool)

end Go.Proofs.YtfgafcjebfjepaaGreatDoor
end

import Derived.Test.YtdifpfehijnmiaaGreatDoorPt
import Derived.Test.YtdifpfehijnmiaaGreatDoorPvPb
import Derived.Test.YtdifpfehijnmiaaGreatDoorPvY
import Derived.Test.YtdifpfehijnmiaaGreatDoorXExE
import Derived.Test.YtdifpfehijnmiaaGreatDoorXTyQ
import Derived.Test.YtdifpfehijnmiaaGreatDoorXNaB
import Derived.Test.YtdifpfehijnmiaaGreatDoorXDcB
section
/- Contracts: right expressions. -/
set_option linter.all false
set_option maxHeartbeats 1000000
set_option maxRecDepth 10000
namespace Go.Proofs.YtdifpfehijnmiaaGreatDoor
open Go Go.Pv
variable (g : Nat → Option (List AV)) (rnd : Bool)

end Go.Proofs.YtdifpfehijnmiaaGreatDoor
end

section
/- Contracts: right declarations. -/
set_option linter.all false
set_option maxHeartbeats 1000000
set_option maxRecDepth 10000
namespace Go.Proofs.YtdifpfehijnmiaaGreatDoor
open Go Go.Pv
variable (g : Nat → Option (List AV)) (rnd : Bool)

theorem c_decl_rightFormal (a : Fm) (hw : wtF a ≤ 1000000000) (hres : g 0 = some reservedA) : Valid Tryz.prog (G0 g rnd) 33 [.agg (encF a)] (.bool (rightF a)) := by
 have hw2 : a.name.length + 1 + wt a.ty ≤ 1000000000 := hw
 refine valid_of [] Tryz.func33 rfl (by kernel_rfl) ?_
 refine sr fun Z z => ?_
 simp [encF, Tryz.f33]
 refine z _ ?_
 clear z Z
 cases h1 : isName a.name
 refine sr fun Z z => ?_
 simp [encF, h1]
 refine RVn_call (c_name_Is g rnd a.name (by omega) hres) ?_
 simp [encF, h1]
 repeat refine sg ?_
 refine z _ ?_
 clear z Z
 refine AT_ret ?_
 simp [encF, Tryz.f33]
 simp [rightF, h1]
 refine sr fun Z z => ?_
 simp [encF, h1]
 refine RVn_call (c_name_Is g rnd a.name (by omega) hres) ?_
 simp [encF, h1]
 repeat refine sg ?_
 refine RVn_call ((by have h := c_types_Right g rnd a.ty (by omega) hres; simp only [encTy_def] at h; exact h)) ?_
 simp [encF, h1]
 repeat refine sg ?_
 refine z _ ?_
 clear z Z
 refine AT_ret ?_
 simp [encF, Tryz.f33]
 simp [rightF, h1]

theorem c_decl_rightParam (a : Fm) (hw : wtF a ≤ 1000000000) (hres : g 0 = some reservedA) : Valid Tryz.prog (G0 g rnd) 35 [.agg (encF a)] (.bool (rightF a)) := by
 have hw2 : a.name.length + 1 + wt a.ty ≤ 1000000000 := hw
 refine valid_of [] Tryz.func35 rfl (by kernel_rfl) ?_
 refine sr fun Z z => ?_
 simp [encF, Tryz.f35]
 refine z _ ?_
 clear z Z
 cases h1 : isName a.name
 refine sr fun Z z => ?_
 simp [encF, h1]
 refine RVn_call (c_name_Is g rnd a.name (by omega) hres) ?_
 simp [encF, h1]
 repeat refine sg ?_
 refine z _ ?_
 clear z Z
 refine AT_ret ?_
 simp [encF, Tryz.f35]
 simp [rightF, h1]
 refine sr fun Z z => ?_
 simp [encF, h1]
 refine RVn_call (c_name_Is g rnd a.name (by omega) hres) ?_
 simp [encF, h1]
 repeat refine sg ?_
 refine RVn_call ((by have h := c_types_Right g rnd a.ty (by omega) hres; simp only [encTy_def] at h; exact h)) ?_
 simp [encF, h1]
 repeat refine sg ?_
 refine z _ ?_
 clear z Z
 refine AT_ret ?_
 simp [encF, Tryz.f35]
 simp [rightF, h1]

theorem c_decl_rightSig (a : Sg) (hw : wtG a ≤ 1000000000) (hres : g 0 = some reservedA) : Valid Tryz.prog (G0 g rnd) 30 [.agg (encG a)] (.bool (rightG a)) := by
 have hw2 : a.name.length + 1 + wtFs a.fms + wtFs a.pms + wt a.res ≤ 1000000000 := hw
 refine valid_of [] Tryz.func30 rfl (by kernel_rfl) ?_
 refine sr fun Z z => ?_
 simp [encG, Tryz.f30]
 refine z _ ?_
 clear z Z
 cases h1 : (isName a.name)
 refine sr fun Z z => ?_
 simp [encG, h1]
 refine RVn_call (c_name_Is g rnd a.name (by omega) hres) ?_
 simp [encG, h1]
 repeat refine sg ?_
 refine z _ ?_
 clear z Z
 refine AT_ret ?_
 simp [encG, Tryz.f30]
 (· simp [rightG, h1])
 cases h2 : (a.fms.all rightF)
 refine sr fun Z z => ?_
 simp [encG, h1, h2]
 refine RVn_call (c_name_Is g rnd a.name (by omega) hres) ?_
 simp [encG, h1, h2]
 repeat refine sg ?_
 refine RVn_call (c_decl_every_api_Formal g rnd 33 [] rightF a.fms (by have := wtFs_len a.fms; omega) (fun x hx => c_decl_rightFormal g rnd x (by have := wtFs_mem hx; omega) hres)) ?_
 simp [encG, h1, h2]
 repeat refine sg ?_
 refine z _ ?_
 clear z Z
 refine AT_ret ?_
 simp [encG, Tryz.f30]
 (· simp [rightG, h1, h2])
 cases h3 : (a.pms.all rightF)
 refine sr fun Z z => ?_
 simp [encG, h1, h2, h3]
 refine RVn_call (c_name_Is g rnd a.name (by omega) hres) ?_
 simp [encG, h1, h2, h3]
 repeat refine sg ?_
 refine RVn_call (c_decl_every_api_Formal g rnd 33 [] rightF a.fms (by have := wtFs_len a.fms; omega) (fun x hx => c_decl_rightFormal g rnd x (by have := wtFs_mem hx; omega) hres)) ?_
 simp [encG, h1, h2, h3]
 repeat refine sg ?_
 refine RVn_call (c_decl_every_api_Param g rnd 35 [] rightF a.pms (by have := wtFs_len a.pms; omega) (fun x hx => c_decl_rightParam g rnd x (by have := wtFs_mem hx; omega) hres)) ?_
 simp [encG, h1, h2, h3]
 repeat refine sg ?_
 refine z _ ?_
 clear z Z
 refine AT_ret ?_
 simp [encG, Tryz.f30]
 (· simp [rightG, h1, h2, h3])
 refine sr fun Z z => ?_
 simp [encG, h1, h2, h3]
 refine RVn_call (c_name_Is g rnd a.name (by omega) hres) ?_
 simp [encG, h1, h2, h3]
 repeat refine sg ?_
 refine RVn_call (c_decl_every_api_Formal g rnd 33 [] rightF a.fms (by have := wtFs_len a.fms; omega) (fun x hx => c_decl_rightFormal g rnd x (by have := wtFs_mem hx; omega) hres)) ?_
 simp [encG, h1, h2, h3]
 repeat refine sg ?_
 refine RVn_call (c_decl_every_api_Param g rnd 35 [] rightF a.pms (by have := wtFs_len a.pms; omega) (fun x hx => c_decl_rightParam g rnd x (by have := wtFs_mem hx; omega) hres)) ?_
 simp [encG, h1, h2, h3]
 repeat refine sg ?_
 refine RVn_call ((by have h := c_types_Right g rnd a.res (by omega) hres; simp only [encTy_def] at h; exact h)) ?_
 simp [encG, h1, h2, h3]
 repeat refine sg ?_
 refine z _ ?_
 clear z Z
 refine AT_ret ?_
 simp [encG, Tryz.f30]
 (· simp [rightG, h1, h2, h3])

end Go.Proofs.YtdifpfehijnmiaaGreatDoor
end

section
/- Contracts: right declarations, every string. -/
set_option linter.all false
set_option maxHeartbeats 1000000
set_option maxRecDepth 10000
namespace Go.Proofs.YtdifpfehijnmiaaGreatDoor
open Go Go.Pv
variable (g : Nat → Option (List AV)) (rnd : Bool)

theorem c_slices_IndexFunc_string_string_q (fid : Nat) (caps : List AV) (q : Str → Bool) (l : List Str) (hl : l.length ≤ 1099511627776) (hq : ∀ x ∈ l, Valid Tryz.prog (G0 g rnd) fid ([.str x] ++ caps) (.bool (q x))) : Valid Tryz.prog (G0 g rnd) 123 [.slice (l.map encS), .func fid caps] (.int .i64 (idxQ q l 0)) := by

 refine valid_of [] Tryz.func123 rfl (by kernel_rfl) ?_
 refine sr fun Z z => ?_
 simp [row_map, encS, Tryz.f123]
 refine z _ ?_
 clear z Z
 refine AT_seq_k fun K1 hK1 => ?_
 refine sr fun Z z => ?_
 simp [row_map, encS]
 refine z _ ?_
 clear z Z
 refine AT_block ?_
 refine AT_loop_q [0,1,7,8] [] (fun j s => ∃ k, k ≤ l.length ∧ idxQ q l 0 = idxQ q (l.drop k) k ∧ j = l.length - k ∧ s = { n := 19, tm := [(0, .v (.slice (l.map encS)) none), (1, .v (.func fid caps) none), (7, .v (.int .i64 l.length) none), (8, .v (.int .i64 k) none)], bx := [], tb := [], sh := [], hint := [] }) (l.length) (by first | rfl | simp) ?_ ?_
 exact ⟨0, by simp⟩
 rintro j s ⟨k, hk, hc, rfl, rfl⟩ K2 hK2
 refine sr fun Z z => ?_
 simp [row_map, encS]
 refine z _ ?_
 clear z Z
 refine AT_seq_k fun K3 hK3 => ?_
 refine AT_cond (g := none) rfl (fun hb9 => ?_) (fun hb9 => ?_)
 simp [row_map, encS] at hb9
 refine AT_skip ?_
 refine hK3 _ ?_
 refine AT_seq_k fun K4 hK4 => ?_
 refine AT_block ?_
 refine sr fun Z z => ?_
 simp [row_map, encS, hb9]
 refine z _ ?_
 clear z Z
 refine sr fun Z z => ?_
 have hk9 : k < l.length := by omega
 have hda := List.drop_eq_getElem_cons hk9
 simp [row_map, encS, hb9]
 refine RVn_call (hq l[k] (by simp)) ?_
 simp [row_map, encS, hb9]
 refine z _ ?_
 clear z Z
 refine AT_cond (g := none) rfl (fun hb16 => ?_) (fun hb16 => ?_)
 refine sr fun Z z => ?_
 simp [row_map, encS, hb9, hb16]
 refine z _ ?_
 clear z Z
 refine AT_ret ?_
 simp [row_map, encS, Tryz.f123]
 (· rw [hc, hda, idxQ, if_pos hb16])
 refine AT_skip ?_
 refine hK4 _ ?_
 refine AT_region_q fun Z z => ?_
 simp [row_map, encS, hb9, hb16]
 repeat refine sg ?_
 refine z _ ?_
 clear z Z
 refine hK2 _ (by first | rfl | simp) (l.length - (k+1)) (by omega) ?_
 refine ⟨k+1, by omega, ?_, by omega, by simp⟩
 rw [hc, hda, idxQ, if_neg (by simp [hb16])]
 simp [row_map, encS] at hb9
 refine AT_exit ?_
 refine hK1 _ ?_
 refine sr fun Z z => ?_
 simp [row_map, encS, hb9]
 refine z _ ?_
 clear z Z
 refine AT_ret ?_
 simp [row_map, encS, Tryz.f123]
 (rw [hc, List.drop_eq_nil_of_le (by omega)]; rfl)

theorem c_slices_ContainsFunc_string_string_q (fid : Nat) (caps : List AV) (q : Str → Bool) (l : List Str) (hl : l.length ≤ 1099511627776) (hq : ∀ x ∈ l, Valid Tryz.prog (G0 g rnd) fid ([.str x] ++ caps) (.bool (q x))) : Valid Tryz.prog (G0 g rnd) 86 [.slice (l.map encS), .func fid caps] (.bool (l.any q)) := by

 refine valid_of [] Tryz.func86 rfl (by kernel_rfl) ?_
 refine sr fun Z z => ?_
 simp [Tryz.f86]
 refine z _ ?_
 clear z Z
 refine sr fun Z z => ?_
 simp
 refine RVn_call (c_slices_IndexFunc_string_string_q g rnd fid caps q l hl hq) ?_
 simp
 refine z _ ?_
 clear z Z
 refine AT_ret ?_
 simp [Tryz.f86]
 exact idxQ_any q l 0

theorem c_decl_every_string_1 (fid : Nat) (caps : List AV) (v : Bool) (x : Str) (hx : Valid Tryz.prog (G0 g rnd) fid ([.str x] ++ caps) (.bool v)) : Valid Tryz.prog (G0 g rnd) 87 [.str x, .ro [.func fid caps]] (.bool (!v)) := by

 refine valid_of [] Tryz.func87 rfl (by kernel_rfl) ?_
 refine sr fun Z z => ?_
 simp [Tryz.f87]
 refine z _ ?_
 clear z Z
 refine sr fun Z z => ?_
 simp
 refine RVn_call (hx) ?_
 simp
 refine z _ ?_
 clear z Z
 refine AT_ret ?_
 simp [Tryz.f87]

theorem c_decl_every_string (fid : Nat) (caps : List AV) (q : Str → Bool) (l : List Str) (hl : l.length ≤ 1099511627776) (hq : ∀ x ∈ l, Valid Tryz.prog (G0 g rnd) fid ([.str x] ++ caps) (.bool (q x))) : Valid Tryz.prog (G0 g rnd) 29 [.slice (l.map encS), .func fid caps] (.bool (l.all q)) := by

 refine valid_of [(200003, 0)] Tryz.func29 rfl (by kernel_rfl) ?_
 refine sr fun Z z => ?_
 simp [Tryz.f29]
 refine z _ ?_
 clear z Z
 refine sr fun Z z => ?_
 simp
 refine RVn_call (c_slices_ContainsFunc_string_string_q g rnd 87 [.ro [.func fid caps]] (fun x => !q x) l hl (fun x hx => c_decl_every_string_1 g rnd fid caps (q x) x (hq x hx))) ?_
 simp
 refine z _ ?_
 clear z Z
 refine AT_ret ?_
 simp [Tryz.f29]
 simp [List.all_eq_not_any_not]

end Go.Proofs.YtdifpfehijnmiaaGreatDoor
end

import Derived.Test.YtdifpfehijnmiaaGreatDoorPt
import Derived.Test.YtdifpfehijnmiaaGreatDoorPvPb
import Derived.Test.YtdifpfehijnmiaaGreatDoorPvY
import Derived.Test.YtdifpfehijnmiaaGreatDoorXDcE
import Derived.Test.YtdifpfehijnmiaaGreatDoorPvDc
import Derived.Test.YtdifpfehijnmiaaGreatDoorPvOf
section
/- Contracts: the types of formals and parameters. -/
set_option linter.all false
set_option maxHeartbeats 1000000
set_option maxRecDepth 10000
namespace Go.Proofs.YtdifpfehijnmiaaGreatDoor
open Go Go.Pv
variable (g : Nat → Option (List AV)) (rnd : Bool)

theorem c_decl_formals (l : List Fm) (hl : l.length ≤ 1000000000) : Valid Tryz.prog (G0 g rnd) 56 [.slice (l.map encF)] (.slice ((l.map Fm.ty).map encTy)) := by

 refine valid_of [(3, 28)] Tryz.func56 rfl (by kernel_rfl) ?_
 refine sr fun Z z => ?_
 simp [row_map, Tryz.f56]
 refine z _ ?_
 clear z Z
 refine sr fun Z z => ?_
 simp [row_map]
 refine z _ ?_
 clear z Z
 refine AT_seq_k fun K1 hK1 => ?_
 refine sr fun Z z => ?_
 simp [row_map]
 refine z _ ?_
 clear z Z
 refine AT_block ?_
 refine AT_loop_q [3,6,7,8] [] (fun j s => ∃ k, k ≤ l.length ∧ j = l.length - k ∧ s = { n := 19, tm := [(3, .v (.slice (((l.take k).map Fm.ty).map encTy)) (some (3, 28))), (6, .v (.slice (l.map encF)) none), (7, .v (.int .i64 l.length) none), (8, .v (.int .i64 k) none)], bx := [], tb := [], sh := [], hint := [(3, 28)] }) (l.length) (by first | rfl | simp) ?_ ?_
 exact ⟨0, by simp⟩
 rintro j s ⟨k, hk, rfl, rfl⟩ K2 hK2
 refine sr fun Z z => ?_
 simp [row_map]
 refine z _ ?_
 clear z Z
 refine AT_seq_k fun K3 hK3 => ?_
 refine AT_cond (g := none) rfl (fun hb9 => ?_) (fun hb9 => ?_)
 simp [row_map] at hb9
 refine AT_skip ?_
 refine hK3 _ ?_
 refine AT_seq_k fun K4 hK4 => ?_
 refine AT_block ?_
 refine sr fun Z z => ?_
 simp [row_map, hb9]
 refine z _ ?_
 clear z Z
 refine AT_region_q fun Z z => ?_
 simp [row_map, encF, row_map, hb9]
 repeat refine sg ?_
 refine z _ ?_
 clear z Z
 refine hK4 _ ?_
 refine AT_region_q fun Z z => ?_
 simp [row_map, hb9]
 repeat refine sg ?_
 refine z _ ?_
 clear z Z
 refine hK2 _ (by first | rfl | simp) (l.length - (k+1)) (by omega) ?_
 refine ⟨k+1, by omega, by omega, ?_⟩
 have hk9 : k < l.length := by omega
 have e9 := encTy_def l[k].ty
 simp [List.take_succ_eq_append_getElem hk9, e9, -List.take_append_getElem]
 simp [row_map] at hb9
 refine AT_exit ?_
 refine hK1 _ ?_
 refine sr fun Z z => ?_
 simp [row_map, hb9]
 refine z _ ?_
 clear z Z
 refine AT_ret ?_
 simp [row_map, Tryz.f56]
 rw [List.take_of_length_le (by simp; omega)]

theorem c_decl_params (l : List Fm) (hl : l.length ≤ 1000000000) : Valid Tryz.prog (G0 g rnd) 57 [.slice (l.map encF)] (.slice ((l.map Fm.ty).map encTy)) := by

 refine valid_of [(3, 28)] Tryz.func57 rfl (by kernel_rfl) ?_
 refine sr fun Z z => ?_
 simp [row_map, Tryz.f57]
 refine z _ ?_
 clear z Z
 refine sr fun Z z => ?_
 simp [row_map]
 refine z _ ?_
 clear z Z
 refine AT_seq_k fun K1 hK1 => ?_
 refine sr fun Z z => ?_
 simp [row_map]
 refine z _ ?_
 clear z Z
 refine AT_block ?_
 refine AT_loop_q [3,6,7,8] [] (fun j s => ∃ k, k ≤ l.length ∧ j = l.length - k ∧ s = { n := 19, tm := [(3, .v (.slice (((l.take k).map Fm.ty).map encTy)) (some (3, 28))), (6, .v (.slice (l.map encF)) none), (7, .v (.int .i64 l.length) none), (8, .v (.int .i64 k) none)], bx := [], tb := [], sh := [], hint := [(3, 28)] }) (l.length) (by first | rfl | simp) ?_ ?_
 exact ⟨0, by simp⟩
 rintro j s ⟨k, hk, rfl, rfl⟩ K2 hK2
 refine sr fun Z z => ?_
 simp [row_map]
 refine z _ ?_
 clear z Z
 refine AT_seq_k fun K3 hK3 => ?_
 refine AT_cond (g := none) rfl (fun hb9 => ?_) (fun hb9 => ?_)
 simp [row_map] at hb9
 refine AT_skip ?_
 refine hK3 _ ?_
 refine AT_seq_k fun K4 hK4 => ?_
 refine AT_block ?_
 refine sr fun Z z => ?_
 simp [row_map, hb9]
 refine z _ ?_
 clear z Z
 refine AT_region_q fun Z z => ?_
 simp [row_map, encF, row_map, hb9]
 repeat refine sg ?_
 refine z _ ?_
 clear z Z
 refine hK4 _ ?_
 refine AT_region_q fun Z z => ?_
 simp [row_map, hb9]
 repeat refine sg ?_
 refine z _ ?_
 clear z Z
 refine hK2 _ (by first | rfl | simp) (l.length - (k+1)) (by omega) ?_
 refine ⟨k+1, by omega, by omega, ?_⟩
 have hk9 : k < l.length := by omega
 have e9 := encTy_def l[k].ty
 simp [List.take_succ_eq_append_getElem hk9, e9, -List.take_append_getElem]
 simp [row_map] at hb9
 refine AT_exit ?_
 refine hK1 _ ?_
 refine sr fun Z z => ?_
 simp [row_map, hb9]
 refine z _ ?_
 clear z Z
 refine AT_ret ?_
 simp [row_map, Tryz.f57]
 rw [List.take_of_length_le (by simp; omega)]

end Go.Proofs.YtdifpfehijnmiaaGreatDoor
end

section
/- Contracts: slices of types, joined. -/
set_option linter.all false
set_option maxHeartbeats 1000000
set_option maxRecDepth 10000
namespace Go.Proofs.YtdifpfehijnmiaaGreatDoor
open Go Go.Pv
variable (g : Nat → Option (List AV)) (rnd : Bool)

section
open Go.Shelf Go.Proofs
def grow_ren : Ren := ⟨fun | 4 => 105 | n => n, fun | 22 => 26 | 25 => 28 | n => n, fun | n => n⟩
theorem grow_lays : Lays8.n4 Tryz.prog grow_ren := { mixed := by kernel_rfl, f4 := ⟨Tryz.f105.name, by kernel_rfl, Tryz.func105.trans (congrArg some (by kernel_rfl))⟩, t0 := Tryz.underlying0, a0 := Tryz.isAgg0, z0 := Tryz.sizeOf0, v0 := Tryz.zeroValue0, t3 := Tryz.underlying3, a3 := Tryz.isAgg3, z3 := Tryz.sizeOf3, v3 := Tryz.zeroValue3, t4 := Tryz.underlying4, a4 := Tryz.isAgg4, z4 := Tryz.sizeOf4, v4 := Tryz.zeroValue4, t9 := Tryz.underlying9, a9 := Tryz.isAgg9, z9 := Tryz.sizeOf9, v9 := Tryz.zeroValue9, t20 := Tryz.underlying20, a20 := Tryz.isAgg20, z20 := Tryz.sizeOf20, v20 := Tryz.zeroValue20, t22 := Tryz.underlying26, a22 := Tryz.isAgg26, z22 := Tryz.sizeOf26, v22 := Tryz.zeroValue26 }
theorem grow_valid {gl : Gl} (n : Nat) (hn : n ≤ 1000000000) : ValidO Tryz.prog gl 105 [.nilS, .int .i64 n] (.slice []) 28 := by
  have hi : ((Tryz.prog.info? 28).bind fun i => i.zero.map fun z => (i.size, i.bytes, z.cells.size)) = some (3, 48, 3) := by kernel_rfl
  obtain ⟨i, h1, h2⟩ := Option.bind_eq_some_iff.1 hi; obtain ⟨z, h3, h4⟩ := Option.map_eq_some_iff.1 h2
  injection h4 with h5 h6; injection h6 with h6 h7
  exact grow_validO grow_lays i z (by kernel_rfl) h1 h3 (by rw [h7, h5]) (by omega) n (by rw [h6]; omega) (by omega)
end

theorem c_slices_Concat_api_Type_api_Type (l : List (List Ty)) (hl : l.length ≤ 1099511627776) (hn : l.flatten.length ≤ 400000000) : ValidO Tryz.prog (G0 g rnd) 55 [.slice (l.map encTL)] (.slice (l.flatten.map encTy)) 28 := by
 have h09 := flN_all l
 refine validO_of [(400000, 0)] Tryz.func55 rfl (by kernel_rfl) ?_
 refine sr fun Z z => ?_
 simp [row_map, Tryz.f55]
 refine z _ ?_
 clear z Z
 refine sr fun Z z => ?_
 simp [row_map]
 refine z _ ?_
 clear z Z
 refine AT_seq_k fun K1 hK1 => ?_
 refine sr fun Z z => ?_
 simp [row_map]
 refine z _ ?_
 clear z Z
 refine AT_block ?_
 refine AT_loop_q [0,3,9,10,11] [] (fun j s => ∃ k, k ≤ l.length ∧ j = l.length - k ∧ s = { n := 36, tm := [(0, .v (.slice (l.map encTL)) none), (3, .v (.int .i64 (flN l k)) none), (9, .v (.slice (l.map encTL)) none), (10, .v (.int .i64 l.length) none), (11, .v (.int .i64 k) none)], bx := [], tb := [], sh := [], hint := [(400000, 0)] }) (l.length) (by first | rfl | simp) ?_ ?_
 exact ⟨0, by simp [flN_nil]⟩
 rintro j s ⟨k, hk, rfl, rfl⟩ K2 hK2
 refine sr fun Z z => ?_
 simp [row_map]
 refine z _ ?_
 clear z Z
 refine AT_seq_k fun K3 hK3 => ?_
 refine AT_cond (g := none) rfl (fun hb12 => ?_) (fun hb12 => ?_)
 simp [row_map] at hb12
 refine AT_skip ?_
 refine hK3 _ ?_
 refine AT_seq_k fun K4 hK4 => ?_
 refine AT_block ?_
 refine sr fun Z z => ?_
 have hk9 : k < l.length := by omega
 have hf9 := flN_le l (k + 1)
 rw [flN_succ l k hk9] at hf9
 simp [row_map, encTL, row_map, hb12]
 refine z _ ?_
 clear z Z
 refine sr fun Z z => ?_
 simp [row_map, hb12]
 repeat refine sg ?_
 refine z _ ?_
 clear z Z
 refine sr fun Z z => ?_
 simp [row_map, hb12]
 refine z _ ?_
 clear z Z
 refine cF (by simp [nn_add, hb12]) ?_
 refine AT_skip ?_
 refine hK4 _ ?_
 refine AT_region_q fun Z z => ?_
 simp [row_map, hb12]
 repeat refine sg ?_
 refine z _ ?_
 clear z Z
 refine hK2 _ (by first | rfl | simp) (l.length - (k+1)) (by omega) ?_
 refine ⟨k+1, by omega, by omega, ?_⟩
 simp [flN_succ l k hk9]
 simp [row_map] at hb12
 refine AT_exit ?_
 refine hK1 _ ?_
 refine sr fun Z z => ?_
 have hk9 : k = l.length := by omega
 subst hk9
 simp [row_map, hb12]
 refine RVn_callO 6 (by simp) (grow_valid (flN l l.length) (by omega)) ?_
 simp [row_map, hb12]
 refine z _ ?_
 clear z Z
 refine AT_seq_k fun K5 hK5 => ?_
 refine sr fun Z z => ?_
 simp [row_map, hb12]
 refine z _ ?_
 clear z Z
 refine AT_block ?_
 refine AT_loop_q [6,25,26,27] [] (fun j s => ∃ k, k ≤ l.length ∧ j = l.length - k ∧ s = { n := 36, tm := [(6, .v (.slice ((flT l k).map encTy)) (some (6, 28))), (25, .v (.slice (l.map encTL)) none), (26, .v (.int .i64 l.length) none), (27, .v (.int .i64 k) none)], bx := [], tb := [], sh := [], hint := [(400000, 0)] }) (l.length) (by first | rfl | simp) ?_ ?_
 exact ⟨0, by simp [flT_nil]⟩
 rintro j s ⟨k, hk, rfl, rfl⟩ K6 hK6
 refine sr fun Z z => ?_
 simp [row_map, hb12]
 refine z _ ?_
 clear z Z
 refine AT_seq_k fun K7 hK7 => ?_
 refine AT_cond (g := none) rfl (fun hb28 => ?_) (fun hb28 => ?_)
 simp [row_map, hb12] at hb28
 refine AT_skip ?_
 refine hK7 _ ?_
 refine AT_seq_k fun K8 hK8 => ?_
 refine AT_block ?_
 refine sr fun Z z => ?_
 have hk9 : k < l.length := by omega
 have hf9 := flN_le l (k + 1)
 rw [flN_succ l k hk9] at hf9
 have hg9 := flT_len l k
 simp [row_map, encTL, row_map, hb12, hb28]
 refine z _ ?_
 clear z Z
 refine AT_region_q fun Z z => ?_
 simp [row_map, hb12, hb28]
 repeat refine sg ?_
 refine z _ ?_
 clear z Z
 refine hK8 _ ?_
 refine AT_region_q fun Z z => ?_
 simp [row_map, hb12, hb28]
 repeat refine sg ?_
 refine z _ ?_
 clear z Z
 refine hK6 _ (by first | rfl | simp) (l.length - (k+1)) (by omega) ?_
 refine ⟨k+1, by omega, by omega, ?_⟩
 simp [flT_succ l k hk9]
 simp [row_map, hb12] at hb28
 refine AT_exit ?_
 refine hK5 _ ?_
 refine sr fun Z z => ?_
 simp [row_map, hb12, hb28]
 refine z _ ?_
 clear z Z
 refine AT_ret ?_
 simp [row_map, Tryz.f55]
 have hk9 : k = l.length := by omega
 subst hk9
 simp [flT_all]

end Go.Proofs.YtdifpfehijnmiaaGreatDoor
end

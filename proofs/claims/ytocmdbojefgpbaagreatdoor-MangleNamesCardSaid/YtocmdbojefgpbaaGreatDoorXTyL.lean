import Derived.Test.YtocmdbojefgpbaaGreatDoorPt
import Derived.Test.YtocmdbojefgpbaaGreatDoorPvPb
import Derived.Test.YtocmdbojefgpbaaGreatDoorPvY
import Derived.Test.YtocmdbojefgpbaaGreatDoorXTyI
section
/- Contracts. -/
set_option linter.all false
set_option maxHeartbeats 1000000
set_option maxRecDepth 10000
namespace Go.Proofs.YtocmdbojefgpbaaGreatDoor
open Go Go.Pv
variable (g : Nat → Option (List AV)) (rnd : Bool)

theorem c_types_Subst (ns : List Str) (as_ : List Ty) (hns : ns.length ≤ 1099511627776) (has : ∀ a ∈ as_, wt a ≤ 1099511627776) (hal : as_.length ≤ 1099511627776) : ∀ t : Ty, wt t ≤ 1099511627776 → Valid Tryz.prog (G0 g rnd) 87 [.agg (encTy t), .slice (ns.map encS), .slice (as_.map encTy)] (.agg (encTy (sub ns as_ t))) := by
 intro t
 induction t using Ty.ind with
 | h n ts p ih =>
 intro hw
 have hw2 : n.length + 1 + wts ts ≤ 1099511627776 := by simpa [wt] using hw
 have hln := wts_len ts
 have hi : ∃ i : Int, i = idxF ns n 0 := ⟨_, rfl⟩
 obtain ⟨i, hi⟩ := hi
 refine valid_of [] Tryz.func87 rfl (by kernel_rfl) ?_
 refine sr fun Z z => ?_
 simp [row_map, encTy_mk, Tryz.f87]
 refine z _ ?_
 clear z Z
 refine AT_seq_k fun K1 hK1 => ?_
 refine sr fun Z z => ?_
 simp [row_map, encTy_mk]
 repeat refine sg ?_
 refine RVn_call ((hi ▸ c_slices_Index_string_string g rnd ns n (by omega) : Valid Tryz.prog (G0 g rnd) 112 [.slice (ns.map encS), .str n] (.int .i64 i))) ?_
 simp [row_map, encTy_mk]
 repeat refine sg ?_
 refine z _ ?_
 clear z Z
 by_cases h0 : ts = []
 have h0b : ((ts.length : Int) == 0) = true := by simpa using h0
 by_cases h1 : 0 ≤ i
 by_cases h2 : i < as_.length
 refine sr fun Z z => ?_
 simp [row_map, encTy_mk, h0b, h1, h2]
 repeat refine sg ?_
 refine z _ ?_
 clear z Z
 refine cT (by simp [h0b, h1, h2]) ?_
 refine sr fun Z z => ?_
 have hin : i.toNat < as_.length := by omega
 simp [row_map, encTy_mk, hin, h0b, h1, h2]
 repeat refine sg ?_
 refine RVn_call (c_types_Clone g rnd as_[i.toNat] (has _ (by simp))) ?_
 simp [row_map, encTy_mk, hin, h0b, h1, h2]
 repeat refine sg ?_
 refine z _ ?_
 clear z Z
 refine sr fun Z z => ?_
 simp [row_map, encTy_mk, h0b, h1, h2]
 repeat refine sg ?_
 refine z _ ?_
 clear z Z
 refine sr fun Z z => ?_
 simp [row_map, encTy_mk, h0b, h1, h2]
 repeat refine sg ?_
 refine z _ ?_
 clear z Z
 refine AT_ret ?_
 simp [row_map, encTy_mk, Tryz.f87]
 first
 | (· rw [sub, if_neg (by simpa using h0), encTy_mk, subs_map]; simp)
 | (· have hin : i.toNat < as_.length := by omega
      rw [sub, if_pos (by simp [h0]), ← hi, if_pos h1, List.getElem?_eq_getElem hin]
      simp only []
      generalize as_[i.toNat] = a; cases a; simp [Ty.at_, encTy_mk])
 | (· have hin : as_.length ≤ i.toNat := by omega
      rw [sub, if_pos (by simp [h0]), ← hi, if_pos h1, List.getElem?_eq_none hin]
      simp [encTy_mk, h0])
 | (· rw [sub, if_pos (by simp [h0]), ← hi, if_neg h1]; simp [encTy_mk, h0])
 | skip
 refine sr fun Z z => ?_
 simp [row_map, encTy_mk, h0b, h1, h2]
 repeat refine sg ?_
 refine z _ ?_
 clear z Z
 refine cF (by simp [h0b, h1, h2]) ?_
 refine AT_skip ?_
 try simp only [nrm, reduceIte, Nat.reduceEqDiff]
 refine hK1 _ ?_
 refine sr fun Z z => ?_
 simp [row_map, encTy_mk, h0b, h1, h2]
 repeat refine sg ?_
 refine RVn_call (c_types_All g rnd ts (ns.map encS) (as_.map encTy) (sub ns as_) (by omega) (fun t ht => ih t ht (Nat.le_trans (wts_mem ht) (by omega)))) ?_
 simp [row_map, encTy_mk, h0b, h1, h2]
 repeat refine sg ?_
 refine z _ ?_
 clear z Z
 refine sr fun Z z => ?_
 simp [row_map, encTy_mk, h0b, h1, h2]
 repeat refine sg ?_
 refine z _ ?_
 clear z Z
 refine AT_ret ?_
 simp [row_map, encTy_mk, Tryz.f87]
 first
 | (· rw [sub, if_neg (by simpa using h0), encTy_mk, subs_map]; simp)
 | (· have hin : i.toNat < as_.length := by omega
      rw [sub, if_pos (by simp [h0]), ← hi, if_pos h1, List.getElem?_eq_getElem hin]
      simp only []
      generalize as_[i.toNat] = a; cases a; simp [Ty.at_, encTy_mk])
 | (· have hin : as_.length ≤ i.toNat := by omega
      rw [sub, if_pos (by simp [h0]), ← hi, if_pos h1, List.getElem?_eq_none hin]
      simp [encTy_mk, h0])
 | (· rw [sub, if_pos (by simp [h0]), ← hi, if_neg h1]; simp [encTy_mk, h0])
 | skip
 refine sr fun Z z => ?_
 simp [row_map, encTy_mk, h0b, h1]
 repeat refine sg ?_
 refine z _ ?_
 clear z Z
 refine cF (by simp [h0b, h1]) ?_
 refine AT_skip ?_
 try simp only [nrm, reduceIte, Nat.reduceEqDiff]
 refine hK1 _ ?_
 refine sr fun Z z => ?_
 simp [row_map, encTy_mk, h0b, h1]
 repeat refine sg ?_
 refine RVn_call (c_types_All g rnd ts (ns.map encS) (as_.map encTy) (sub ns as_) (by omega) (fun t ht => ih t ht (Nat.le_trans (wts_mem ht) (by omega)))) ?_
 simp [row_map, encTy_mk, h0b, h1]
 repeat refine sg ?_
 refine z _ ?_
 clear z Z
 refine sr fun Z z => ?_
 simp [row_map, encTy_mk, h0b, h1]
 repeat refine sg ?_
 refine z _ ?_
 clear z Z
 refine AT_ret ?_
 simp [row_map, encTy_mk, Tryz.f87]
 first
 | (· rw [sub, if_neg (by simpa using h0), encTy_mk, subs_map]; simp)
 | (· have hin : i.toNat < as_.length := by omega
      rw [sub, if_pos (by simp [h0]), ← hi, if_pos h1, List.getElem?_eq_getElem hin]
      simp only []
      generalize as_[i.toNat] = a; cases a; simp [Ty.at_, encTy_mk])
 | (· have hin : as_.length ≤ i.toNat := by omega
      rw [sub, if_pos (by simp [h0]), ← hi, if_pos h1, List.getElem?_eq_none hin]
      simp [encTy_mk, h0])
 | (· rw [sub, if_pos (by simp [h0]), ← hi, if_neg h1]; simp [encTy_mk, h0])
 | skip
 have h0b : ((ts.length : Int) == 0) = false := by simpa using h0
 refine sr fun Z z => ?_
 simp [row_map, encTy_mk, h0b]
 repeat refine sg ?_
 refine z _ ?_
 clear z Z
 refine cF (by simp [h0b]) ?_
 refine AT_skip ?_
 try simp only [nrm, reduceIte, Nat.reduceEqDiff]
 refine hK1 _ ?_
 refine sr fun Z z => ?_
 simp [row_map, encTy_mk, h0b]
 repeat refine sg ?_
 refine RVn_call (c_types_All g rnd ts (ns.map encS) (as_.map encTy) (sub ns as_) (by omega) (fun t ht => ih t ht (Nat.le_trans (wts_mem ht) (by omega)))) ?_
 simp [row_map, encTy_mk, h0b]
 repeat refine sg ?_
 refine z _ ?_
 clear z Z
 refine sr fun Z z => ?_
 simp [row_map, encTy_mk, h0b]
 repeat refine sg ?_
 refine z _ ?_
 clear z Z
 refine AT_ret ?_
 simp [row_map, encTy_mk, Tryz.f87]
 first
 | (· rw [sub, if_neg (by simpa using h0), encTy_mk, subs_map]; simp)
 | (· have hin : i.toNat < as_.length := by omega
      rw [sub, if_pos (by simp [h0]), ← hi, if_pos h1, List.getElem?_eq_getElem hin]
      simp only []
      generalize as_[i.toNat] = a; cases a; simp [Ty.at_, encTy_mk])
 | (· have hin : as_.length ≤ i.toNat := by omega
      rw [sub, if_pos (by simp [h0]), ← hi, if_pos h1, List.getElem?_eq_none hin]
      simp [encTy_mk, h0])
 | (· rw [sub, if_pos (by simp [h0]), ← hi, if_neg h1]; simp [encTy_mk, h0])
 | skip

end Go.Proofs.YtocmdbojefgpbaaGreatDoor
end

section
/- Contracts. -/
set_option linter.all false
set_option maxHeartbeats 1000000
set_option maxRecDepth 10000
namespace Go.Proofs.YtocmdbojefgpbaaGreatDoor
open Go Go.Pv
variable (g : Nat → Option (List AV)) (rnd : Bool)

end Go.Proofs.YtocmdbojefgpbaaGreatDoor
end

section
/- Contracts. -/
set_option linter.all false
set_option maxHeartbeats 1000000
set_option maxRecDepth 10000
namespace Go.Proofs.YtocmdbojefgpbaaGreatDoor
open Go Go.Pv
variable (g : Nat → Option (List AV)) (rnd : Bool)

end Go.Proofs.YtocmdbojefgpbaaGreatDoor
end

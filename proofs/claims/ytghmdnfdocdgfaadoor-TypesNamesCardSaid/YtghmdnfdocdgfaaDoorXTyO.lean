/- Contracts. -/
import Derived.Test.YtghmdnfdocdgfaaDoorPt
import Derived.Test.YtghmdnfdocdgfaaDoorPvZ
import Derived.Test.YtghmdnfdocdgfaaDoorXTyD
import Derived.Test.YtghmdnfdocdgfaaDoorXNaB
set_option linter.all false
set_option maxHeartbeats 1000000
set_option maxRecDepth 10000
namespace Go.Proofs.YtghmdnfdocdgfaaDoor
open Go Go.Pv
variable (g : Nat → Option (List AV)) (rnd : Bool)

theorem c_slices_IndexFunc_api_Type_api_Type (Y : Ys) (hP : Y.P = Tryd.prog) (L : Ty → List AV) (caps : List AV) (l : List Ty) (s : List AV) (hl : l.length ≤ 1099511627776) (he : elOk Y s (l.flatMap L)) (hcl : ∀ a ∈ l, ∀ s, elOk Y s (L a) → ValidY Tryd.prog (G1 g Y) Y 52 ([.agg (encTy a)] ++ caps) (s, true) (.bool (!(feed Y s (L a)).2)) (feed Y s (L a))) : ValidY Tryd.prog (G1 g Y) Y 59 [.slice (l.map encTy), .func 52 caps] (s, true) (.int .i64 (visI Y L s l 0)) (feed Y s (l.flatMap L)) := by

  refine validY_of [] Tryd.func59 rfl (by kernel_rfl) rfl hP ?_
  refine AT_seq_region fun K1 hK1 => ?_
  simp [row_map, Tryd.f59]
  repeat (refine ⟨by first | omega | (simp at *; omega), ?_⟩)
  refine hK1 _ ?_
  clear hK1 K1
  refine AT_seq_k fun K2 hK2 => ?_
  refine AT_seq_region fun K3 hK3 => ?_
  simp [row_map]
  repeat (refine ⟨by first | omega | (simp at *; omega), ?_⟩)
  refine hK3 _ ?_
  clear hK3 K3
  refine AT_block ?_
  refine AT_loop_q [0,1,7,8] [] (fun j st => ∃ k s1, k ≤ l.length ∧ feed Y s (l.flatMap L) = feed Y s1 ((l.drop k).flatMap L) ∧ visI Y L s l 0 = visI Y L s1 (l.drop k) k ∧ elOk Y s1 ((l.drop k).flatMap L) ∧ j = l.length - k ∧ st = { n := 19, tm := [(0, .v (.slice (l.map encTy)) none), (1, .v (.func 52 caps) none), (7, .v (.int .i64 l.length) none), (8, .v (.int .i64 k) none)], bx := [], tb := [], sh := [], hint := [], ys := (s1, true) }) (l.length) (by first | rfl | simp) ?_ ?_
  ·
    exact ⟨0, s, by simp [he]⟩
  ·
    rintro j st ⟨k, s1, hk, hf, hv, hel, rfl, rfl⟩ K4 hK4
    refine AT_seq_region fun K5 hK5 => ?_
    simp [row_map]
    repeat (refine ⟨by first | omega | (simp at *; omega), ?_⟩)
    refine hK5 _ ?_
    clear hK5 K5
    refine AT_seq_k fun K6 hK6 => ?_
    refine AT_cond (g := none) rfl (fun hb9 => ?_) (fun hb9 => ?_)
    ·
      try simp [row_map] at hb9
      refine AT_skip ?_
      try simp only [thenA, inBlockA, ite_true, ite_false, reduceIte, Nat.reduceEqDiff]
      refine hK6 _ ?_
      refine AT_seq_k fun K7 hK7 => ?_
      refine AT_block ?_
      refine AT_seq_region fun K8 hK8 => ?_
      simp [row_map, hb9]
      repeat (refine ⟨by first | omega | (simp at *; omega), ?_⟩)
      refine hK8 _ ?_
      clear hK8 K8
      refine AT_seq_region fun K9 hK9 => ?_
      have hk9 : k < l.length := by omega
      have hda := List.drop_eq_getElem_cons hk9
      simp [row_map, hb9]
      repeat (refine ⟨by first | omega | (simp at *; omega), ?_⟩)
      refine RVn_callY rfl (by simp) (hcl l[k] (by simp) s1 (by rw [hda, List.flatMap_cons, elOk_app] at hel; exact hel.1)) ?_
      simp [row_map, hb9]
      repeat (refine ⟨by first | omega | (simp at *; omega), ?_⟩)
      refine hK9 _ ?_
      clear hK9 K9
      refine AT_cond (g := none) rfl (fun hb16 => ?_) (fun hb16 => ?_)
      ·
        try simp [row_map, hb9] at hb16
        refine AT_seq_region fun K10 hK10 => ?_
        simp [row_map, hb9]
        repeat (refine ⟨by first | omega | (simp at *; omega), ?_⟩)
        refine hK10 _ ?_
        clear hK10 K10
        refine AT_ret ?_
        simp [row_map, Tryd.f59]
        first
        | (refine ⟨?_, ?_⟩
           · rw [hv, hda, visI, if_neg (by simp [hb16])]
           · rw [hf, hda, List.flatMap_cons, feed_app, if_neg (by simp [hb16])])
        | (have hnil := List.drop_eq_nil_of_le (show l.length ≤ k by omega)
           rw [hf, hv, hnil]; simp [visI, feed])
      ·
        try simp [row_map, hb9] at hb16
        refine AT_skip ?_
        try simp only [thenA, inBlockA, ite_true, ite_false, reduceIte, Nat.reduceEqDiff]
        refine hK7 _ ?_
        refine AT_region_q fun K11 hK11 => ?_
        simp [row_map, hb9]
        repeat (refine ⟨by first | omega | (simp at *; omega), ?_⟩)
        refine hK11 _ ?_
        clear hK11 K11
        try simp only [thenA, inBlockA, ite_true, ite_false, reduceIte, Nat.reduceEqDiff]
        refine hK4 _ (by first | rfl | simp) (l.length - (k+1)) (by omega) ?_
        refine ⟨k+1, (feed Y s1 (L l[k])).1, by omega, ?_, ?_, ?_, by omega, ?_⟩
        · rw [hf, hda, List.flatMap_cons, feed_app, if_pos hb16]
        · rw [hv, hda, visI, if_pos hb16]
        · rw [hda, List.flatMap_cons, elOk_app] at hel; exact hel.2 hb16
        · simp; exact Prod.ext rfl hb16
    ·
      try simp [row_map] at hb9
      refine AT_exit ?_
      try simp only [thenA, inBlockA, ite_true, ite_false, reduceIte, Nat.reduceEqDiff]
      refine hK2 _ ?_
      refine AT_seq_region fun K12 hK12 => ?_
      simp [row_map, hb9]
      repeat (refine ⟨by first | omega | (simp at *; omega), ?_⟩)
      refine hK12 _ ?_
      clear hK12 K12
      refine AT_ret ?_
      simp [row_map, Tryd.f59]
      first
      | (refine ⟨?_, ?_⟩
         · rw [hv, hda, visI, if_neg (by simp [hb16])]
         · rw [hf, hda, List.flatMap_cons, feed_app, if_neg (by simp [hb16])])
      | (have hnil := List.drop_eq_nil_of_le (show l.length ≤ k by omega)
         rw [hf, hv, hnil]; simp [visI, feed])

theorem c_slices_ContainsFunc_api_Type_api_Type (Y : Ys) (hP : Y.P = Tryd.prog) (L : Ty → List AV) (caps : List AV) (l : List Ty) (s : List AV) (hl : l.length ≤ 1099511627776) (he : elOk Y s (l.flatMap L)) (hcl : ∀ a ∈ l, ∀ s, elOk Y s (L a) → ValidY Tryd.prog (G1 g Y) Y 52 ([.agg (encTy a)] ++ caps) (s, true) (.bool (!(feed Y s (L a)).2)) (feed Y s (L a))) : ValidY Tryd.prog (G1 g Y) Y 53 [.slice (l.map encTy), .func 52 caps] (s, true) (.bool (!(feed Y s (l.flatMap L)).2)) (feed Y s (l.flatMap L)) := by

  refine validY_of [] Tryd.func53 rfl (by kernel_rfl) rfl hP ?_
  refine AT_seq_region fun K1 hK1 => ?_
  simp [Tryd.f53]
  repeat (refine ⟨by first | omega | (simp at *; omega), ?_⟩)
  refine hK1 _ ?_
  clear hK1 K1
  refine AT_seq_region fun K2 hK2 => ?_
  simp
  repeat (refine ⟨by first | omega | (simp at *; omega), ?_⟩)
  refine RVn_callY rfl (by simp) (c_slices_IndexFunc_api_Type_api_Type g Y hP L caps l s hl he hcl) ?_
  simp
  repeat (refine ⟨by first | omega | (simp at *; omega), ?_⟩)
  refine hK2 _ ?_
  clear hK2 K2
  refine AT_ret ?_
  simp [Tryd.f53]
  exact visI_feed Y L s l 0

end Go.Proofs.YtghmdnfdocdgfaaDoor

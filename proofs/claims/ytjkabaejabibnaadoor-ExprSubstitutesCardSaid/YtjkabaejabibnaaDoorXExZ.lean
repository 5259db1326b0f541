/- Contracts: the reference's substitution. -/
import Derived.Test.YtjkabaejabibnaaDoorPt
import Derived.Test.YtjkabaejabibnaaDoorPvLc
import Derived.Test.YtjkabaejabibnaaDoorPvY
import Derived.Test.YtjkabaejabibnaaDoorXExD
import Derived.Test.YtjkabaejabibnaaDoorPvOb
set_option linter.all false
set_option maxHeartbeats 1000000
set_option maxRecDepth 10000
namespace Go.Proofs.YtjkabaejabibnaaDoor
open Go Go.Pv
variable (g : Nat → Option (List AV)) (rnd : Bool)

theorem c_ref05x_Subst (ns : List Str) (as_ : List Ty) (hns : ns.length ≤ 1099511627776) (has : ∀ a ∈ as_, wt a ≤ 1099511627776) (hal : as_.length ≤ 1099511627776) : ∀ e : Exp, wtE e ≤ 1000000000 → Valid Tryd.prog (G0 g rnd) 23 [.agg (encE e), .slice (ns.map encS), .slice (as_.map encTy)] (.agg (encE (subE ns as_ e))) := by
  intro e
  induction e using Exp.ind with
  | h kd n t ta l p ih =>
  intro hw
  have hw2 : n.length + 1 + wt t + wts ta + wtEs l ≤ 1000000000 := by simpa [wtE_mk] using hw
  have hln := wtEs_len l
  have hla := wts_len ta
  refine valid_of [(107006, 27)] Tryd.func23 rfl (by kernel_rfl) ?_
  refine AT_seq_region fun K1 hK1 => ?_
  simp [row_map, encE_mk, encTy_def, Tryd.f23]
  repeat (refine ⟨by first | omega | (simp at *; omega), ?_⟩)
  refine hK1 _ ?_
  clear hK1 K1
  refine AT_seq_draw_last (by exact List.cons_ne_nil _ _) true [] Pt.mixed (by kernel_rfl) (by kernel_rfl) ⟨by simp [Im, okP, AS.get, look, TV.strip], fun _ => NoC_of (by simp [isCl])⟩ fun K2 hK2 => ?_
  simp [row_map, encE_mk, encTy_def]
  repeat (refine ⟨by first | omega | (simp at *; omega), ?_⟩)
  refine RVdn_call ((by have h := c_ref04x_Subst g rnd ns as_ hns has hal t (by omega); simp only [encTy_def] at h; exact h)) ?_
  simp [row_map, encE_mk, encTy_def]
  repeat (refine ⟨by first | omega | (simp at *; omega), ?_⟩)
  refine RVdn_call (c_ref04x_All g rnd ta (ns.map encS) (as_.map encTy) (sub ns as_) (by omega) (fun x hx => c_ref04x_Subst g rnd ns as_ hns has hal x (Nat.le_trans (wts_mem hx) (by omega)))) ?_
  simp [row_map, encE_mk, encTy_def]
  repeat (refine ⟨by first | omega | (simp at *; omega), ?_⟩)
  refine hK2 _ _ (Gives.refl) fun K2b hK2b => ?_
  simp [row_map, encE_mk, encTy_def]
  repeat (refine ⟨by first | omega | (simp at *; omega), ?_⟩)
  refine hK2b _ ?_
  clear hK2b K2b
  clear hK2 K2
  refine AT_seq_k fun K3 hK3 => ?_
  refine AT_seq_region fun K4 hK4 => ?_
  simp [row_map, encE_mk, encTy_def]
  repeat (refine ⟨by first | omega | (simp at *; omega), ?_⟩)
  refine hK4 _ ?_
  clear hK4 K4
  refine AT_block ?_
  refine AT_loop_q [1,2,3,6,7,8] [3,6,7] (fun j s => ∃ k, k ≤ l.length ∧ j = l.length - k ∧ s = { n := 47, tm := [(1, .v (.slice (ns.map encS)) none), (2, .v (.slice (as_.map encTy)) none), (3, .lp 3 0), (6, .lp 6 0), (7, .lp 7 0), (8, .v (.int .i64 k) none)], bx := [(3, encE (.mk kd n t ta l p)), (6, [.int .i64 0, .str [], .str [], .slice [], .int .i64 0, .slice [], .slice [], .int .i64 0]), (7, [.int .i64 kd, .str n, .str (sub ns as_ t).name, .slice ((sub ns as_ t).args.map encTy), .int .i64 (sub ns as_ t).pos, .slice ((ta.map (sub ns as_)).map encTy), .slice (((l.take k).map (subE ns as_)).map encE), .int .i64 p])], tb := [(7, 6, 107006, 27)], sh := [], hint := [(107006, 27)] }) (l.length) (by first | rfl | simp) ?_ ?_
  ·
    exact ⟨0, by simp [encE_mk, encTy_def]⟩
  ·
    rintro j s ⟨k, hk, rfl, rfl⟩ K5 hK5
    refine AT_seq_k fun K6 hK6 => ?_
    refine AT_seq_region fun K7 hK7 => ?_
    simp [row_map, encE_mk, encTy_def]
    repeat (refine ⟨by first | omega | (simp at *; omega), ?_⟩)
    refine hK7 _ ?_
    clear hK7 K7
    refine AT_cond (g := none) rfl (fun hb30 => ?_) (fun hb30 => ?_)
    ·
      try simp [row_map, encE_mk, encTy_def] at hb30
      refine AT_skip ?_
      try simp only [thenA, inBlockA, noGotoA, ite_true, ite_false, reduceIte, Nat.reduceEqDiff]
      refine hK6 _ ?_
      refine AT_seq_k fun K8 hK8 => ?_
      refine AT_block ?_
      refine AT_draw_q Pt.mixed (by kernel_rfl) fun K9 hK9 => ?_
      simp [row_map, encE_mk, encTy_def, hb30]
      repeat (refine ⟨by first | omega | (simp at *; omega), ?_⟩)
      refine RVdn_call (ih l[k] (by simp) (by have := wtEs_mem (l := l) (e := l[k]) (by simp); omega)) ?_
      simp [row_map, encE_mk, encTy_def, hb30]
      repeat (refine ⟨by first | omega | (simp at *; omega), ?_⟩)
      refine hK9 _ ?_
      clear hK9 K9
      try simp only [thenA, inBlockA, noGotoA, ite_true, ite_false, reduceIte, Nat.reduceEqDiff]
      refine hK8 _ ?_
      refine AT_region_q fun K10 hK10 => ?_
      simp [row_map, encE_mk, encTy_def, hb30]
      repeat (refine ⟨by first | omega | (simp at *; omega), ?_⟩)
      refine hK10 _ ?_
      clear hK10 K10
      try simp only [thenA, inBlockA, noGotoA, ite_true, ite_false, reduceIte, Nat.reduceEqDiff]
      refine hK5 _ (by first | rfl | simp) (l.length - (k+1)) (by omega) ?_
      have hs2 := take_map_succ (encE ∘ subE ns as_) l k hb30
      exact ⟨k+1, by omega, by omega, by simp [hs2, encE_mk]⟩
    ·
      try simp [row_map, encE_mk, encTy_def] at hb30
      refine AT_exit ?_
      try simp only [thenA, inBlockA, noGotoA, ite_true, ite_false, reduceIte, Nat.reduceEqDiff]
      refine hK3 _ ?_
      refine AT_seq_region fun K11 hK11 => ?_
      simp [row_map, encE_mk, encTy_def, hb30]
      repeat (refine ⟨by first | omega | (simp at *; omega), ?_⟩)
      refine hK11 _ ?_
      clear hK11 K11
      refine AT_ret ?_
      simp [row_map, encE_mk, encTy_def, Tryd.f23]
      rw [List.take_of_length_le (by simpa using hb30), subE, encE_mk, subs_map, subEs_map]; simp

end Go.Proofs.YtjkabaejabibnaaDoor

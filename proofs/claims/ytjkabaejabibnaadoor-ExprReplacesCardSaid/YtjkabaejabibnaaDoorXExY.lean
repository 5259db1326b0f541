import Derived.Test.YtjkabaejabibnaaDoorPt
import Derived.Test.YtjkabaejabibnaaDoorPvPa
import Derived.Test.YtjkabaejabibnaaDoorPvY
import Derived.Test.YtjkabaejabibnaaDoorXExD
import Derived.Test.YtjkabaejabibnaaDoorPvOb
section
/- Contracts: the reference's substitution. -/
set_option linter.all false
set_option maxHeartbeats 1000000
set_option maxRecDepth 10000
namespace Go.Proofs.YtjkabaejabibnaaDoor
open Go Go.Pv
variable (g : Nat → Option (List AV)) (rnd : Bool)

theorem c_ref05x_Subst (ns : List Str) (as_ : List Ty) (hns : ns.length ≤ 1099511627776) (has : ∀ a ∈ as_, wt a ≤ 1099511627776) (hal : as_.length ≤ 1099511627776) : ∀ e : Exp, wtE e ≤ 1000000000 → Valid Tryd.prog (G0 g rnd) 23 [.agg (encE e), .slice (ns.map encS), .slice (as_.map encTy)] (.agg (encE (subE ns as_ e))) := by
 intro e
 induction e using Exp.ind with
 | h kd n t ta l p ih =>
 intro hw
 have hw2 : n.length + 1 + wt t + wts ta + wtEs l ≤ 1000000000 := by simpa [wtE_mk] using hw
 have hln := wtEs_len l
 have hla := wts_len ta
 refine valid_of [(107006, 27)] Tryd.func23 rfl (by kernel_rfl) ?_
 refine AT_seq_region fun K1 hK1 => ?_
 simp [row_map, encE_mk, encTy_def, Tryd.f23]
 repeat refine sg ?_
 refine hK1 _ ?_
 clear hK1 K1
 refine AT_seq_draw_last (by exact List.cons_ne_nil _ _) true [] Pt.mixed (by kernel_rfl) (by kernel_rfl) ⟨by simp [Im, okP, AS.get, look, TV.strip], fun _ => NoC_of (by simp [isCl])⟩ fun K2 hK2 => ?_
 simp [row_map, encE_mk, encTy_def]
 repeat refine sg ?_
 refine RVdn_call ((by have h := c_ref04x_Subst g rnd ns as_ hns has hal t (by omega); simp only [encTy_def] at h; exact h)) ?_
 simp [row_map, encE_mk, encTy_def]
 repeat refine sg ?_
 refine RVdn_call (c_ref04x_All g rnd ta (ns.map encS) (as_.map encTy) (sub ns as_) (by omega) (fun x hx => c_ref04x_Subst g rnd ns as_ hns has hal x (Nat.le_trans (wts_mem hx) (by omega)))) ?_
 simp [row_map, encE_mk, encTy_def]
 repeat refine sg ?_
 refine hK2 _ _ (Gives.refl) fun K2b hK2b => ?_
 simp [row_map, encE_mk, encTy_def]
 repeat refine sg ?_
 refine hK2b _ ?_
 clear hK2b K2b
 clear hK2 K2
 refine AT_seq_k fun K3 hK3 => ?_
 refine AT_seq_region fun K4 hK4 => ?_
 simp [row_map, encE_mk, encTy_def]
 repeat refine sg ?_
 refine hK4 _ ?_
 clear hK4 K4
 refine AT_block ?_
 refine AT_loop_q [1,2,3,6,7,8] [3,6,7] (fun j s => ∃ k, k ≤ l.length ∧ j = l.length - k ∧ s = { n := 47, tm := [(1, .v (.slice (ns.map encS)) none), (2, .v (.slice (as_.map encTy)) none), (3, .lp 3 0), (6, .lp 6 0), (7, .lp 7 0), (8, .v (.int .i64 k) none)], bx := [(3, encE (.mk kd n t ta l p)), (6, [.int .i64 0, .str [], .str [], .slice [], .int .i64 0, .slice [], .slice [], .int .i64 0]), (7, [.int .i64 kd, .str n, .str (sub ns as_ t).name, .slice ((sub ns as_ t).args.map encTy), .int .i64 (sub ns as_ t).pos, .slice ((ta.map (sub ns as_)).map encTy), .slice (((l.take k).map (subE ns as_)).map encE), .int .i64 p])], tb := [(7, 6, 107006, 27)], sh := [], hint := [(107006, 27)] }) (l.length) (by first | rfl | simp) ?_ ?_
 ·
  exact ⟨0, by simp [encE_mk, encTy_def]⟩
 ·
  rintro j s ⟨k, hk, rfl, rfl⟩ K5 hK5
  refine AT_seq_k fun K6 hK6 => ?_
  refine AT_seq_region fun K7 hK7 => ?_
  simp [row_map, encE_mk, encTy_def]
  repeat refine sg ?_
  refine hK7 _ ?_
  clear hK7 K7
  refine AT_cond (g := none) rfl (fun hb30 => ?_) (fun hb30 => ?_)
  ·
   try simp [row_map, encE_mk, encTy_def] at hb30
   refine AT_skip ?_
   try simp only [nrm, reduceIte, Nat.reduceEqDiff]
   refine hK6 _ ?_
   refine AT_seq_k fun K8 hK8 => ?_
   refine AT_block ?_
   refine AT_draw_q Pt.mixed (by kernel_rfl) fun K9 hK9 => ?_
   simp [row_map, encE_mk, encTy_def, hb30]
   repeat refine sg ?_
   refine RVdn_call (ih l[k] (by simp) (by have := wtEs_mem (l := l) (e := l[k]) (by simp); omega)) ?_
   simp [row_map, encE_mk, encTy_def, hb30]
   repeat refine sg ?_
   refine hK9 _ ?_
   clear hK9 K9
   try simp only [nrm, reduceIte, Nat.reduceEqDiff]
   refine hK8 _ ?_
   refine AT_region_q fun K10 hK10 => ?_
   simp [row_map, encE_mk, encTy_def, hb30]
   repeat refine sg ?_
   refine hK10 _ ?_
   clear hK10 K10
   try simp only [nrm, reduceIte, Nat.reduceEqDiff]
   refine hK5 _ (by first | rfl | simp) (l.length - (k+1)) (by omega) ?_
   have hs2 := take_map_succ (encE ∘ subE ns as_) l k hb30
   exact ⟨k+1, by omega, by omega, by simp [hs2, encE_mk]⟩
  ·
   try simp [row_map, encE_mk, encTy_def] at hb30
   refine AT_exit ?_
   try simp only [nrm, reduceIte, Nat.reduceEqDiff]
   refine hK3 _ ?_
   refine AT_seq_region fun K11 hK11 => ?_
   simp [row_map, encE_mk, encTy_def, hb30]
   repeat refine sg ?_
   refine hK11 _ ?_
   clear hK11 K11
   refine AT_ret ?_
   simp [row_map, encE_mk, encTy_def, Tryd.f23]
   rw [List.take_of_length_le (by simpa using hb30), subE, encE_mk, subs_map, subEs_map]; simp

end Go.Proofs.YtjkabaejabibnaaDoor
end

section
/- Contracts: the reference's replacing. -/
set_option linter.all false
set_option maxHeartbeats 1000000
set_option maxRecDepth 10000
namespace Go.Proofs.YtjkabaejabibnaaDoor
open Go Go.Pv
variable (g : Nat → Option (List AV)) (rnd : Bool)

theorem c_ref05x_Subst_n (ns : List Str) (as_ : List Ty) (hns : ns.length ≤ 1099511627776) (has : ∀ a ∈ as_, wt a ≤ 1099511627776) (hal : as_.length ≤ 1099511627776) (kd : Int) (n : Str) (t : Ty) (ta : List Ty) (p : Int) (hw : wt t + wts ta ≤ 1000000000) : Valid Tryd.prog (G0 g rnd) 23 [.agg (encE (.mk kd n t ta [] p)), .slice (ns.map encS), .slice (as_.map encTy)] (.agg [.int .i64 kd, .str n, .str (sub ns as_ t).name, .slice ((sub ns as_ t).args.map encTy), .int .i64 (sub ns as_ t).pos, .slice ((ta.map (sub ns as_)).map encTy), .nilS, .int .i64 p]) := by
 have hla := wts_len ta
 refine valid_of [] Tryd.func23 rfl (by kernel_rfl) ?_
 refine AT_seq_region fun K1 hK1 => ?_
 simp [row_map, encE_mk, encTy_def, Tryd.f23]
 repeat refine sg ?_
 refine hK1 _ ?_
 clear hK1 K1
 refine AT_seq_draw_last (by exact List.cons_ne_nil _ _) true [] Pt.mixed (by kernel_rfl) (by kernel_rfl) ⟨by simp [Im, okP, AS.get, look, TV.strip], fun _ => NoC_of (by simp [isCl])⟩ fun K2 hK2 => ?_
 simp [row_map, encE_mk, encTy_def]
 repeat refine sg ?_
 refine RVdn_call ((by have h := c_ref04x_Subst g rnd ns as_ hns has hal t (by omega); simp only [encTy_def] at h; exact h)) ?_
 simp [row_map, encE_mk, encTy_def]
 repeat refine sg ?_
 refine RVdn_call (c_ref04x_All g rnd ta (ns.map encS) (as_.map encTy) (sub ns as_) (by omega) (fun x hx => c_ref04x_Subst g rnd ns as_ hns has hal x (Nat.le_trans (wts_mem hx) (by omega)))) ?_
 simp [row_map, encE_mk, encTy_def]
 repeat refine sg ?_
 refine hK2 _ _ (Gives.nilled 25 rfl) fun K2b hK2b => ?_
 simp [row_map, encE_mk, encTy_def]
 repeat refine sg ?_
 refine hK2b _ ?_
 clear hK2b K2b
 clear hK2 K2
 refine AT_seq_k fun K3 hK3 => ?_
 refine AT_seq_region fun K4 hK4 => ?_
 simp [row_map, encE_mk, encTy_def]
 repeat refine sg ?_
 refine hK4 _ ?_
 clear hK4 K4
 refine AT_block ?_
 refine AT_loop_q [1,2,3,6,7,8] [3,6,7] (fun j s => ∃ (u : Unit), j = 0 ∧ s = { n := 47, tm := [(1, .v (.slice (ns.map encS)) none), (2, .v (.slice (as_.map encTy)) none), (3, .lp 3 0), (6, .lp 6 0), (7, .lp 7 0), (8, .v (.int .i64 0) none)], bx := [(3, encE (.mk kd n t ta [] p)), (6, [.int .i64 0, .str [], .str [], .slice [], .int .i64 0, .slice [], .slice [], .int .i64 0]), (7, [.int .i64 kd, .str n, .str (sub ns as_ t).name, .slice ((sub ns as_ t).args.map encTy), .int .i64 (sub ns as_ t).pos, .slice ((ta.map (sub ns as_)).map encTy), .nilS, .int .i64 p])], tb := [], sh := [], hint := [] }) (0) (by first | rfl | simp) ?_ ?_
 ·
  exact ⟨(), rfl, by simp [encE_mk, encTy_def]⟩
 ·
  rintro j s ⟨u, rfl, rfl⟩ K5 hK5
  refine AT_seq_k fun K6 hK6 => ?_
  refine AT_seq_region fun K7 hK7 => ?_
  simp [row_map, encE_mk, encTy_def]
  repeat refine sg ?_
  refine hK7 _ ?_
  clear hK7 K7
  refine AT_cond (b := false) (g := none) (by simp) (fun hb => ?_) (fun hb => ?_)
  ·
   cases hb
  ·
   clear hb
   refine AT_exit ?_
   try simp only [nrm, reduceIte, Nat.reduceEqDiff]
   refine hK3 _ ?_
   refine AT_seq_region fun K8 hK8 => ?_
   simp [row_map, encE_mk, encTy_def]
   repeat refine sg ?_
   refine hK8 _ ?_
   clear hK8 K8
   refine AT_ret ?_
   simp [row_map, encE_mk, encTy_def, Tryd.f23]

theorem c_ref05x_Replace (vs : List Str) (xs : List Exp) (hvs : vs.length ≤ 1000000000) (hxs : ∀ x ∈ xs, wtE x ≤ 1000000000) (hxl : xs.length ≤ 1000000000) : ∀ e : Exp, wtE e ≤ 1000000000 → Valid Tryd.prog (G0 g rnd) 26 [.agg (encE e), .slice (vs.map encS), .slice (xs.map encE)] (.agg (encE (repE vs xs e))) := by
 intro e
 induction e using Exp.ind with
 | h kd n t ta l p ih =>
 intro hw
 have hw2 : n.length + 1 + wt t + wts ta + wtEs l ≤ 1000000000 := by simpa [wtE_mk] using hw
 have hln := wtEs_len l
 have hla := wts_len ta
 refine valid_of [(108006, 27)] Tryd.func26 rfl (by kernel_rfl) ?_
 refine AT_seq_region fun K1 hK1 => ?_
 simp [row_map, encE_mk, encTy_def, encS, Tryd.f26]
 repeat refine sg ?_
 refine hK1 _ ?_
 clear hK1 K1
 refine AT_seq_k fun K2 hK2 => ?_
 refine AT_seq_region fun K3 hK3 => ?_
 simp [row_map, encE_mk, encTy_def, encS]
 repeat refine sg ?_
 refine hK3 _ ?_
 clear hK3 K3
 refine AT_block ?_
 refine AT_loop_q [1,2,3,6,7] [3,6] (fun j s => ∃ k, k ≤ vs.length ∧ idxF vs n 0 = idxF (vs.drop k) n k ∧ j = vs.length - k ∧ s = { n := 79, tm := [(1, .v (.slice (vs.map encS)) none), (2, .v (.slice (xs.map encE)) none), (3, .lp 3 0), (6, .lp 6 0), (7, .v (.int .i64 k) none)], bx := [(3, encE (.mk kd n t ta l p)), (6, [.int .i64 0, .str [], .str [], .slice [], .int .i64 0, .slice [], .slice [], .int .i64 0])], tb := [], sh := [], hint := [(108006, 27)] }) (vs.length) (by first | rfl | simp) ?_ ?_
 ·
  exact ⟨0, by simp, by simp, by simp, by simp [encE_mk, encTy_def]⟩
 ·
  rintro j s ⟨k, hk, hc, rfl, rfl⟩ K4 hK4
  refine AT_seq_k fun K5 hK5 => ?_
  by_cases hkv : k < vs.length
  ·
   by_cases hk1 : kd = 1
   ·
    have hk1b : (kd == 1) = true := by simpa using hk1
    by_cases heq : vs[k] = n
    ·
     have hid : idxF vs n 0 = k := by rw [hc, List.drop_eq_getElem_cons hkv, idxF, if_pos heq.symm]
     by_cases hkx : k < xs.length
     ·
      refine AT_seq_region fun K6 hK6 => ?_
      simp [row_map, encE_mk, encTy_def, encS, hkv, hk1b, heq, hkx]
      repeat refine sg ?_
      refine hK6 _ ?_
      clear hK6 K6
      refine AT_cond (b := true) (g := none) (by simp [hkv, hk1b, heq, hkx]) (fun hb => ?_) (fun hb => ?_)
      ·
       clear hb
       refine AT_skip ?_
       try simp only [nrm, reduceIte, Nat.reduceEqDiff]
       refine hK5 _ ?_
       refine AT_seq_k fun K7 hK7 => ?_
       refine AT_block ?_
       refine AT_seq_k fun K8 hK8 => ?_
       refine AT_seq_draw Pt.mixed (by kernel_rfl) fun K9 hK9 => ?_
       simp [row_map, encE_mk, encTy_def, encS, hkv, hk1b, heq, hkx]
       repeat refine sg ?_
       refine hK9 _ ?_
       clear hK9 K9
       refine AT_cond (b := true) (g := none) (by simp [hkv, hk1b, heq, hkx]) (fun hb => ?_) (fun hb => ?_)
       ·
        clear hb
        refine AT_seq_region fun K10 hK10 => ?_
        simp [row_map, encE_mk, encTy_def, encS, hkv, hk1b, heq, hkx]
        repeat refine sg ?_
        refine RVn_call ((by have h := c_ref05x_Subst g rnd [] [] (by simp) (by simp) (by simp) xs[k] (hxs _ (by simp)); rw [subE_nil] at h; exact h)) ?_
        simp [row_map, encE_mk, encTy_def, encS, hkv, hk1b, heq, hkx]
        repeat refine sg ?_
        refine hK10 _ ?_
        clear hK10 K10
        refine AT_ret ?_
        simp [row_map, encE_mk, encTy_def, encS, Tryd.f26]
        first
        | (rw [List.take_of_length_le (by simpa using hb62), repE, if_neg hno, encE_mk, repEs_map]; simp; done)
        | (rw [repE, if_pos (by omega), hid]; simp [hkx]; done)
       ·
        cases hb
      ·
       cases hb
     ·
      have hno : ¬ (kd = 1 ∧ 0 ≤ idxF vs n 0 ∧ idxF vs n 0 < xs.length) := by omega
      refine AT_seq_region fun K11 hK11 => ?_
      simp [row_map, encE_mk, encTy_def, encS, hkv, hk1b, heq, hkx]
      repeat refine sg ?_
      refine hK11 _ ?_
      clear hK11 K11
      refine AT_cond (b := true) (g := none) (by simp [hkv, hk1b, heq, hkx]) (fun hb => ?_) (fun hb => ?_)
      ·
       clear hb
       refine AT_skip ?_
       try simp only [nrm, reduceIte, Nat.reduceEqDiff]
       refine hK5 _ ?_
       refine AT_seq_k fun K12 hK12 => ?_
       refine AT_block ?_
       refine AT_seq_k fun K13 hK13 => ?_
       refine AT_seq_draw Pt.mixed (by kernel_rfl) fun K14 hK14 => ?_
       simp [row_map, encE_mk, encTy_def, encS, hkv, hk1b, heq, hkx]
       repeat refine sg ?_
       refine hK14 _ ?_
       clear hK14 K14
       refine AT_cond (b := false) (g := none) (by simp [hkv, hk1b, heq, hkx]) (fun hb => ?_) (fun hb => ?_)
       ·
        cases hb
       ·
        clear hb
        refine AT_skip ?_
        try simp only [nrm, reduceIte, Nat.reduceEqDiff]
        refine hK13 _ ?_
        refine AT_seq_draw Pt.mixed (by kernel_rfl) fun K15 hK15 => ?_
        simp [row_map, encE_mk, encTy_def, encS, hkv, hk1b, heq, hkx]
        repeat refine sg ?_
        refine hK15 _ ?_
        clear hK15 K15
        refine AT_cond (b := true) (g := none) (by simp [hkv, hk1b, heq, hkx]) (fun hb => ?_) (fun hb => ?_)
        ·
         clear hb
         refine AT_exit ?_
         try simp only [nrm, reduceIte, Nat.reduceEqDiff]
         refine hK2 _ ?_
         refine AT_seq_region fun K16 hK16 => ?_
         simp [row_map, encE_mk, encTy_def, encS, hkv, hk1b, heq, hkx]
         repeat refine sg ?_
         refine RVn_call ((by have h := c_ref05x_Subst_n g rnd [] [] (by simp) (by simp) (by simp) kd n t ta p (by omega); simp only [sub_nil, show ta.map (sub [] []) = ta by rw [← subs_map]; exact subs_nil ta, encE_mk, List.map_nil] at h; exact h)) ?_
         simp [row_map, encE_mk, encTy_def, encS, hkv, hk1b, heq, hkx]
         repeat refine sg ?_
         refine hK16 _ ?_
         clear hK16 K16
         refine AT_seq_k fun K17 hK17 => ?_
         refine AT_seq_region fun K18 hK18 => ?_
         simp [row_map, encE_mk, encTy_def, encS, hkv, hk1b, heq, hkx]
         repeat refine sg ?_
         refine hK18 _ ?_
         clear hK18 K18
         refine AT_block ?_
         refine AT_str (Gives.openN 8 6 27 rfl rfl (by simp)) ?_
         simp only [List.set_cons_succ, List.set_cons_zero]
         refine AT_loop_q [1,2,3,6,8,9] [3,6,8] (fun j s => ∃ k, k ≤ l.length ∧ j = l.length - k ∧ s = { n := 79, tm := [(1, .v (.slice (vs.map encS)) none), (2, .v (.slice (xs.map encE)) none), (3, .lp 3 0), (6, .lp 6 0), (8, .lp 8 0), (9, .v (.int .i64 k) none)], bx := [(3, encE (.mk kd n t ta l p)), (6, [.int .i64 0, .str [], .str [], .slice [], .int .i64 0, .slice [], .slice [], .int .i64 0]), (8, [.int .i64 kd, .str n, .str t.name, .slice (t.args.map encTy), .int .i64 t.pos, .slice (ta.map encTy), .slice (((l.take k).map (repE vs xs)).map encE), .int .i64 p])], tb := [(8, 6, 108006, 27)], sh := [], hint := [(108006, 27)] }) (l.length) (by first | rfl | simp) ?_ ?_
         ·
          exact ⟨0, by simp [encE_mk, encTy_def]⟩
         ·
          rintro j s ⟨k, hk, rfl, rfl⟩ K19 hK19
          refine AT_seq_k fun K20 hK20 => ?_
          refine AT_seq_region fun K21 hK21 => ?_
          simp [row_map, encE_mk, encTy_def, encS, hkv, hk1b, heq, hkx]
          repeat refine sg ?_
          refine hK21 _ ?_
          clear hK21 K21
          refine AT_cond (g := none) rfl (fun hb62 => ?_) (fun hb62 => ?_)
          ·
           try simp [row_map, encE_mk, encTy_def, encS, hkv, hk1b, heq, hkx] at hb62
           refine AT_skip ?_
           try simp only [nrm, reduceIte, Nat.reduceEqDiff]
           refine hK20 _ ?_
           refine AT_seq_k fun K22 hK22 => ?_
           refine AT_block ?_
           refine AT_draw_q Pt.mixed (by kernel_rfl) fun K23 hK23 => ?_
           simp [row_map, encE_mk, encTy_def, encS, hkv, hk1b, heq, hkx, hb62]
           repeat refine sg ?_
           refine RVdn_call (ih l[k] (by simp) (by have := wtEs_mem (l := l) (e := l[k]) (by simp); omega)) ?_
           simp [row_map, encE_mk, encTy_def, encS, hkv, hk1b, heq, hkx, hb62]
           repeat refine sg ?_
           refine hK23 _ ?_
           clear hK23 K23
           try simp only [nrm, reduceIte, Nat.reduceEqDiff]
           refine hK22 _ ?_
           refine AT_region_q fun K24 hK24 => ?_
           simp [row_map, encE_mk, encTy_def, encS, hkv, hk1b, heq, hkx, hb62]
           repeat refine sg ?_
           refine hK24 _ ?_
           clear hK24 K24
           try simp only [nrm, reduceIte, Nat.reduceEqDiff]
           refine hK19 _ (by first | rfl | simp) (l.length - (k+1)) (by omega) ?_
           have hs2 := take_map_succ (encE ∘ repE vs xs) l k hb62
           exact ⟨k+1, by omega, by omega, by simp [hs2, encE_mk]⟩
          ·
           try simp [row_map, encE_mk, encTy_def, encS, hkv, hk1b, heq, hkx] at hb62
           refine AT_exit ?_
           try simp only [nrm, reduceIte, Nat.reduceEqDiff]
           refine hK17 _ ?_
           refine AT_seq_region fun K25 hK25 => ?_
           simp [row_map, encE_mk, encTy_def, encS, hkv, hk1b, heq, hkx, hb62]
           repeat refine sg ?_
           refine hK25 _ ?_
           clear hK25 K25
           refine AT_ret ?_
           simp [row_map, encE_mk, encTy_def, encS, Tryd.f26]
           first
           | (rw [List.take_of_length_le (by simpa using hb62), repE, if_neg hno, encE_mk, repEs_map]; simp; done)
           | (rw [repE, if_pos (by omega), hid]; simp [hkx]; done)
        ·
         cases hb
      ·
       cases hb
    ·
     have heqb : (vs[k] == n) = false := by simpa using heq
     refine AT_seq_region fun K26 hK26 => ?_
     simp [row_map, encE_mk, encTy_def, encS, hkv, hk1b, heqb]
     repeat refine sg ?_
     refine hK26 _ ?_
     clear hK26 K26
     refine AT_cond (b := true) (g := none) (by simp [hkv, hk1b, heqb]) (fun hb => ?_) (fun hb => ?_)
     ·
      clear hb
      refine AT_skip ?_
      try simp only [nrm, reduceIte, Nat.reduceEqDiff]
      refine hK5 _ ?_
      refine AT_seq_k fun K27 hK27 => ?_
      refine AT_block ?_
      refine AT_seq_k fun K28 hK28 => ?_
      refine AT_seq_draw Pt.mixed (by kernel_rfl) fun K29 hK29 => ?_
      simp [row_map, encE_mk, encTy_def, encS, hkv, hk1b, heqb]
      repeat refine sg ?_
      refine hK29 _ ?_
      clear hK29 K29
      refine AT_cond (b := false) (g := none) (by simp [hkv, hk1b, heqb]) (fun hb => ?_) (fun hb => ?_)
      ·
       cases hb
      ·
       clear hb
       refine AT_skip ?_
       try simp only [nrm, reduceIte, Nat.reduceEqDiff]
       refine hK28 _ ?_
       refine AT_seq_draw Pt.mixed (by kernel_rfl) fun K30 hK30 => ?_
       simp [row_map, encE_mk, encTy_def, encS, hkv, hk1b, heqb]
       repeat refine sg ?_
       refine hK30 _ ?_
       clear hK30 K30
       refine AT_cond (b := false) (g := none) (by simp [hkv, hk1b, heqb]) (fun hb => ?_) (fun hb => ?_)
       ·
        cases hb
       ·
        clear hb
        refine AT_skip ?_
        try simp only [nrm, reduceIte, Nat.reduceEqDiff]
        refine hK27 _ ?_
        refine AT_region_q fun K31 hK31 => ?_
        simp [row_map, encE_mk, encTy_def, encS, hkv, hk1b, heqb]
        repeat refine sg ?_
        refine hK31 _ ?_
        clear hK31 K31
        try simp only [nrm, reduceIte, Nat.reduceEqDiff]
        refine hK4 _ (by first | rfl | simp) (vs.length - (k+1)) (by omega) ?_
        refine ⟨k+1, by omega, ?_, by omega, by simp [encE_mk, encTy_def]⟩
        rw [hc, List.drop_eq_getElem_cons hkv, idxF, if_neg (fun h => heq h.symm)]
     ·
      cases hb
   ·
    have hk1b : (kd == 1) = false := by simpa using hk1
    have hno : ¬ (kd = 1 ∧ 0 ≤ idxF vs n 0 ∧ idxF vs n 0 < xs.length) := fun h => hk1 h.1
    refine AT_seq_region fun K32 hK32 => ?_
    simp [row_map, encE_mk, encTy_def, encS, hkv, hk1b]
    repeat refine sg ?_
    refine hK32 _ ?_
    clear hK32 K32
    refine AT_cond (b := false) (g := none) (by simp [hkv, hk1b]) (fun hb => ?_) (fun hb => ?_)
    ·
     cases hb
    ·
     clear hb
     refine AT_exit ?_
     try simp only [nrm, reduceIte, Nat.reduceEqDiff]
     refine hK2 _ ?_
     refine AT_seq_region fun K33 hK33 => ?_
     simp [row_map, encE_mk, encTy_def, encS, hkv, hk1b]
     repeat refine sg ?_
     refine RVn_call ((by have h := c_ref05x_Subst_n g rnd [] [] (by simp) (by simp) (by simp) kd n t ta p (by omega); simp only [sub_nil, show ta.map (sub [] []) = ta by rw [← subs_map]; exact subs_nil ta, encE_mk, List.map_nil] at h; exact h)) ?_
     simp [row_map, encE_mk, encTy_def, encS, hkv, hk1b]
     repeat refine sg ?_
     refine hK33 _ ?_
     clear hK33 K33
     refine AT_seq_k fun K34 hK34 => ?_
     refine AT_seq_region fun K35 hK35 => ?_
     simp [row_map, encE_mk, encTy_def, encS, hkv, hk1b]
     repeat refine sg ?_
     refine hK35 _ ?_
     clear hK35 K35
     refine AT_block ?_
     refine AT_str (Gives.openN 8 6 27 rfl rfl (by simp)) ?_
     simp only [List.set_cons_succ, List.set_cons_zero]
     refine AT_loop_q [1,2,3,6,8,9] [3,6,8] (fun j s => ∃ k, k ≤ l.length ∧ j = l.length - k ∧ s = { n := 79, tm := [(1, .v (.slice (vs.map encS)) none), (2, .v (.slice (xs.map encE)) none), (3, .lp 3 0), (6, .lp 6 0), (8, .lp 8 0), (9, .v (.int .i64 k) none)], bx := [(3, encE (.mk kd n t ta l p)), (6, [.int .i64 0, .str [], .str [], .slice [], .int .i64 0, .slice [], .slice [], .int .i64 0]), (8, [.int .i64 kd, .str n, .str t.name, .slice (t.args.map encTy), .int .i64 t.pos, .slice (ta.map encTy), .slice (((l.take k).map (repE vs xs)).map encE), .int .i64 p])], tb := [(8, 6, 108006, 27)], sh := [], hint := [(108006, 27)] }) (l.length) (by first | rfl | simp) ?_ ?_
     ·
      exact ⟨0, by simp [encE_mk, encTy_def]⟩
     ·
      rintro j s ⟨k, hk, rfl, rfl⟩ K36 hK36
      refine AT_seq_k fun K37 hK37 => ?_
      refine AT_seq_region fun K38 hK38 => ?_
      simp [row_map, encE_mk, encTy_def, encS, hkv, hk1b]
      repeat refine sg ?_
      refine hK38 _ ?_
      clear hK38 K38
      refine AT_cond (g := none) rfl (fun hb62 => ?_) (fun hb62 => ?_)
      ·
       try simp [row_map, encE_mk, encTy_def, encS, hkv, hk1b] at hb62
       refine AT_skip ?_
       try simp only [nrm, reduceIte, Nat.reduceEqDiff]
       refine hK37 _ ?_
       refine AT_seq_k fun K39 hK39 => ?_
       refine AT_block ?_
       refine AT_draw_q Pt.mixed (by kernel_rfl) fun K40 hK40 => ?_
       simp [row_map, encE_mk, encTy_def, encS, hkv, hk1b, hb62]
       repeat refine sg ?_
       refine RVdn_call (ih l[k] (by simp) (by have := wtEs_mem (l := l) (e := l[k]) (by simp); omega)) ?_
       simp [row_map, encE_mk, encTy_def, encS, hkv, hk1b, hb62]
       repeat refine sg ?_
       refine hK40 _ ?_
       clear hK40 K40
       try simp only [nrm, reduceIte, Nat.reduceEqDiff]
       refine hK39 _ ?_
       refine AT_region_q fun K41 hK41 => ?_
       simp [row_map, encE_mk, encTy_def, encS, hkv, hk1b, hb62]
       repeat refine sg ?_
       refine hK41 _ ?_
       clear hK41 K41
       try simp only [nrm, reduceIte, Nat.reduceEqDiff]
       refine hK36 _ (by first | rfl | simp) (l.length - (k+1)) (by omega) ?_
       have hs2 := take_map_succ (encE ∘ repE vs xs) l k hb62
       exact ⟨k+1, by omega, by omega, by simp [hs2, encE_mk]⟩
      ·
       try simp [row_map, encE_mk, encTy_def, encS, hkv, hk1b] at hb62
       refine AT_exit ?_
       try simp only [nrm, reduceIte, Nat.reduceEqDiff]
       refine hK34 _ ?_
       refine AT_seq_region fun K42 hK42 => ?_
       simp [row_map, encE_mk, encTy_def, encS, hkv, hk1b, hb62]
       repeat refine sg ?_
       refine hK42 _ ?_
       clear hK42 K42
       refine AT_ret ?_
       simp [row_map, encE_mk, encTy_def, encS, Tryd.f26]
       first
       | (rw [List.take_of_length_le (by simpa using hb62), repE, if_neg hno, encE_mk, repEs_map]; simp; done)
       | (rw [repE, if_pos (by omega), hid]; simp [hkx]; done)
  ·
   have hno : ¬ (kd = 1 ∧ 0 ≤ idxF vs n 0 ∧ idxF vs n 0 < xs.length) := by
     rw [hc, List.drop_eq_nil_of_le (by omega)]; simp [idxF]
   refine AT_seq_region fun K43 hK43 => ?_
   simp [row_map, encE_mk, encTy_def, encS, hkv]
   repeat refine sg ?_
   refine hK43 _ ?_
   clear hK43 K43
   refine AT_cond (b := false) (g := none) (by simp [hkv]) (fun hb => ?_) (fun hb => ?_)
   ·
    cases hb
   ·
    clear hb
    refine AT_exit ?_
    try simp only [nrm, reduceIte, Nat.reduceEqDiff]
    refine hK2 _ ?_
    refine AT_seq_region fun K44 hK44 => ?_
    simp [row_map, encE_mk, encTy_def, encS, hkv]
    repeat refine sg ?_
    refine RVn_call ((by have h := c_ref05x_Subst_n g rnd [] [] (by simp) (by simp) (by simp) kd n t ta p (by omega); simp only [sub_nil, show ta.map (sub [] []) = ta by rw [← subs_map]; exact subs_nil ta, encE_mk, List.map_nil] at h; exact h)) ?_
    simp [row_map, encE_mk, encTy_def, encS, hkv]
    repeat refine sg ?_
    refine hK44 _ ?_
    clear hK44 K44
    refine AT_seq_k fun K45 hK45 => ?_
    refine AT_seq_region fun K46 hK46 => ?_
    simp [row_map, encE_mk, encTy_def, encS, hkv]
    repeat refine sg ?_
    refine hK46 _ ?_
    clear hK46 K46
    refine AT_block ?_
    refine AT_str (Gives.openN 8 6 27 rfl rfl (by simp)) ?_
    simp only [List.set_cons_succ, List.set_cons_zero]
    refine AT_loop_q [1,2,3,6,8,9] [3,6,8] (fun j s => ∃ k, k ≤ l.length ∧ j = l.length - k ∧ s = { n := 79, tm := [(1, .v (.slice (vs.map encS)) none), (2, .v (.slice (xs.map encE)) none), (3, .lp 3 0), (6, .lp 6 0), (8, .lp 8 0), (9, .v (.int .i64 k) none)], bx := [(3, encE (.mk kd n t ta l p)), (6, [.int .i64 0, .str [], .str [], .slice [], .int .i64 0, .slice [], .slice [], .int .i64 0]), (8, [.int .i64 kd, .str n, .str t.name, .slice (t.args.map encTy), .int .i64 t.pos, .slice (ta.map encTy), .slice (((l.take k).map (repE vs xs)).map encE), .int .i64 p])], tb := [(8, 6, 108006, 27)], sh := [], hint := [(108006, 27)] }) (l.length) (by first | rfl | simp) ?_ ?_
    ·
     exact ⟨0, by simp [encE_mk, encTy_def]⟩
    ·
     rintro j s ⟨k, hk, rfl, rfl⟩ K47 hK47
     refine AT_seq_k fun K48 hK48 => ?_
     refine AT_seq_region fun K49 hK49 => ?_
     simp [row_map, encE_mk, encTy_def, encS, hkv]
     repeat refine sg ?_
     refine hK49 _ ?_
     clear hK49 K49
     refine AT_cond (g := none) rfl (fun hb62 => ?_) (fun hb62 => ?_)
     ·
      try simp [row_map, encE_mk, encTy_def, encS, hkv] at hb62
      refine AT_skip ?_
      try simp only [nrm, reduceIte, Nat.reduceEqDiff]
      refine hK48 _ ?_
      refine AT_seq_k fun K50 hK50 => ?_
      refine AT_block ?_
      refine AT_draw_q Pt.mixed (by kernel_rfl) fun K51 hK51 => ?_
      simp [row_map, encE_mk, encTy_def, encS, hkv, hb62]
      repeat refine sg ?_
      refine RVdn_call (ih l[k] (by simp) (by have := wtEs_mem (l := l) (e := l[k]) (by simp); omega)) ?_
      simp [row_map, encE_mk, encTy_def, encS, hkv, hb62]
      repeat refine sg ?_
      refine hK51 _ ?_
      clear hK51 K51
      try simp only [nrm, reduceIte, Nat.reduceEqDiff]
      refine hK50 _ ?_
      refine AT_region_q fun K52 hK52 => ?_
      simp [row_map, encE_mk, encTy_def, encS, hkv, hb62]
      repeat refine sg ?_
      refine hK52 _ ?_
      clear hK52 K52
      try simp only [nrm, reduceIte, Nat.reduceEqDiff]
      refine hK47 _ (by first | rfl | simp) (l.length - (k+1)) (by omega) ?_
      have hs2 := take_map_succ (encE ∘ repE vs xs) l k hb62
      exact ⟨k+1, by omega, by omega, by simp [hs2, encE_mk]⟩
     ·
      try simp [row_map, encE_mk, encTy_def, encS, hkv] at hb62
      refine AT_exit ?_
      try simp only [nrm, reduceIte, Nat.reduceEqDiff]
      refine hK45 _ ?_
      refine AT_seq_region fun K53 hK53 => ?_
      simp [row_map, encE_mk, encTy_def, encS, hkv, hb62]
      repeat refine sg ?_
      refine hK53 _ ?_
      clear hK53 K53
      refine AT_ret ?_
      simp [row_map, encE_mk, encTy_def, encS, Tryd.f26]
      first
      | (rw [List.take_of_length_le (by simpa using hb62), repE, if_neg hno, encE_mk, repEs_map]; simp; done)
      | (rw [repE, if_pos (by omega), hid]; simp [hkx]; done)

end Go.Proofs.YtjkabaejabibnaaDoor
end

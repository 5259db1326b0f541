import Derived.Test.YtpjkdaechknogaaDoorPt
import Derived.Test.YtpjkdaechknogaaDoorPvPb
import Derived.Test.YtpjkdaechknogaaDoorPvY
import Derived.Test.YtpjkdaechknogaaDoorXRdB
section
/- Contracts: types, read. -/
set_option linter.all false
set_option maxHeartbeats 1000000
set_option maxRecDepth 10000
namespace Go.Proofs.YtpjkdaechknogaaDoor
open Go Go.Pv
variable (g : Nat → Option (List AV)) (rnd : Bool)

theorem c_read_Cursor_targs (q b n : Nat) (L : List Tk) (hT : ∀ c, c.l.length < n → c.l <:+ L → ValidC Tryd.prog (G0 g false) 39 [] b (encC 110 c) (.agg (encTy (typeC q c).1)) (encC 110 (typeC q c).2)) (c : Cur) (hc : c.next [91] = true → c.adv.l.length < n) (hcL : c.l <:+ L) (hn : n ≤ 1000000) (hLn : L.length ≤ 1000000) : ValidC Tryd.prog (G0 g false) 61 [] b (encC 110 c) (.slice ((targsC (typeC q) c).1.map encTy)) (encC 110 (targsC (typeC q) c).2) := by
 have hcl := hcL.length_le
 refine validC_of [] Tryd.func61 rfl (by kernel_rfl) ?_
 refine AT_seq_region fun K1 hK1 => ?_
 simp [Cur.take, Tryd.f61]
 repeat refine sg ?_
 refine hK1 _ ?_
 clear hK1 K1
 refine AT_seq_k fun K2 hK2 => ?_
 cases hnx : c.next [91]
 ·
  refine AT_seq_region fun K3 hK3 => ?_
  simp [Cur.take, hnx]
  repeat refine sg ?_
  refine RVn_callC (c_read_Cursor_Take g [91] b c (by omega)) rfl ?_
  simp [Cur.take, hnx]
  repeat refine sg ?_
  refine hK3 _ ?_
  clear hK3 K3
  refine AT_cond (b := true) (g := none) (by simp [hnx]) (fun hb => ?_) (fun hb => ?_)
  ·
   clear hb
   refine AT_seq_region fun K4 hK4 => ?_
   simp [Cur.take, hnx]
   repeat refine sg ?_
   refine hK4 _ ?_
   clear hK4 K4
   refine AT_ret ?_
   simp [Cur.take, Tryd.f61]
   all_goals simp [targsC, hnx]
  ·
   cases hb
 ·
  have hll := (listC_suf (typeC_suf q) c.adv).length_le
  have ha := c.adv_suf.length_le
  refine AT_seq_region fun K5 hK5 => ?_
  simp [Cur.take, hnx]
  repeat refine sg ?_
  refine RVn_callC (c_read_Cursor_Take g [91] b c (by omega)) rfl ?_
  simp [Cur.take, hnx]
  repeat refine sg ?_
  refine hK5 _ ?_
  clear hK5 K5
  refine AT_cond (b := false) (g := none) (by simp [hnx]) (fun hb => ?_) (fun hb => ?_)
  ·
   cases hb
  ·
   clear hb
   refine AT_skip ?_
   try simp only [nrm, reduceIte, Nat.reduceEqDiff]
   refine hK2 _ ?_
   refine AT_seq_region fun K6 hK6 => ?_
   simp [Cur.take, hnx]
   repeat refine sg ?_
   refine RVn_callC (c_read_list_api_Type g (typeC q) b n L (typeC_suf q) hT c.adv (hc hnx) (c.adv_suf.trans hcL) hn) rfl ?_
   simp [Cur.take, hnx]
   repeat refine sg ?_
   refine hK6 _ ?_
   clear hK6 K6
   refine AT_seq_region fun K7 hK7 => ?_
   simp [Cur.take, hnx]
   repeat refine sg ?_
   refine RVn_callC (c_read_Cursor_Must g [93] b (listC (typeC q) c.adv).2 (by omega)) rfl ?_
   simp [Cur.take, hnx]
   repeat refine sg ?_
   refine hK7 _ ?_
   clear hK7 K7
   refine AT_seq_region fun K8 hK8 => ?_
   simp [Cur.take, hnx]
   repeat refine sg ?_
   refine hK8 _ ?_
   clear hK8 K8
   refine AT_ret ?_
   simp [Cur.take, Tryd.f61]
   all_goals simp [targsC, hnx]

theorem c_read_Cursor_Type (b : Nat) (L : List Tk) (hL : ∀ t ∈ L, t.2.1.length ≤ 1000000) (hLn : L.length < 1000000) (hnm : ∀ s : Str, s.length ≤ 1000000 → Valid Tryd.prog (G0 g false) 53 [.str s] (.bool (isName s))) : ∀ (n : Nat) (c : Cur), c.l.length < n → n ≤ 1000000 → c.l <:+ L → ValidC Tryd.prog (G0 g false) 39 [] b (encC 110 c) (.agg (encTy (typeC n c).1)) (encC 110 (typeC n c).2) := by
 intro n
 induction n with
 | zero => intro c hc; omega
 | succ q ih =>
 intro c hc hq hcL
 have hnl := c.name_suf.length_le
 have hnx : c.name.next [91] = true → c.name.adv.l.length < q := fun h => by
   have h1 := (Cur.name_next h).2
   have h2 := c.name.adv_suf.length_le
   omega
 refine validC_of [] Tryd.func39 rfl (by kernel_rfl) ?_
 refine AT_seq_region fun K1 hK1 => ?_
 simp [Tryd.f39]
 repeat refine sg ?_
 refine hK1 _ ?_
 clear hK1 K1
 refine AT_seq_region fun K2 hK2 => ?_
 simp
 repeat refine sg ?_
 refine RVn_callC (c_read_Cursor_Name g b c (by omega) hnm (fun t ht => hL t (hcL.subset ht))) rfl ?_
 simp
 repeat refine sg ?_
 refine hK2 _ ?_
 clear hK2 K2
 refine AT_seq_region fun K3 hK3 => ?_
 simp [encTy_mk]
 repeat refine sg ?_
 refine RVn_callC (c_read_Cursor_targs g q b q L (fun c h h2 => ih c h (by omega) h2) c.name hnx (c.name_suf.trans hcL) (by omega) (by omega)) rfl ?_
 simp [encTy_mk]
 repeat refine sg ?_
 refine hK3 _ ?_
 clear hK3 K3
 refine AT_ret ?_
 simp [Tryd.f39]
 all_goals simp [typeC, encTy_mk]

end Go.Proofs.YtpjkdaechknogaaDoor
end

section
/- Contracts: expressions, read. -/
set_option linter.all false
set_option maxHeartbeats 1000000
set_option maxRecDepth 10000
namespace Go.Proofs.YtpjkdaechknogaaDoor
open Go Go.Pv
variable (g : Nat → Option (List AV)) (rnd : Bool)

theorem c_read_Cursor_args (q b n : Nat) (L : List Tk) (hE : ∀ c, c.l.length < n → c.l <:+ L → ValidC Tryd.prog (G0 g false) 41 [] b (encC 110 c) (.agg (encE (exprC q c).1)) (encC 110 (exprC q c).2)) (e : Str) (c : Cur) (hc : c.l.length < n) (hcL : c.l <:+ L) (hn : n ≤ 1000000) (hLn : L.length ≤ 1000000) : ValidC Tryd.prog (G0 g false) 62 [.str e] b (encC 110 c) (.slice ((argsC (exprC q) e c).1.map encE)) (encC 110 (argsC (exprC q) e c).2) := by
 have hcl := hcL.length_le
 have hll := (listC_suf (exprC_suf q) c).length_le
 refine validC_of [] Tryd.func62 rfl (by kernel_rfl) ?_
 refine AT_seq_region fun K1 hK1 => ?_
 simp [Tryd.f62]
 repeat refine sg ?_
 refine hK1 _ ?_
 clear hK1 K1
 refine AT_seq_region fun K2 hK2 => ?_
 simp
 repeat refine sg ?_
 refine hK2 _ ?_
 clear hK2 K2
 refine AT_seq_k fun K3 hK3 => ?_
 cases hnx : c.next e
 ·
  refine AT_seq_region fun K4 hK4 => ?_
  simp [hnx]
  repeat refine sg ?_
  refine RVn_callC (c_read_Cursor_Next g e b c (by omega)) rfl ?_
  simp [hnx]
  repeat refine sg ?_
  refine hK4 _ ?_
  clear hK4 K4
  refine AT_cond (b := true) (g := none) (by simp [hnx]) (fun hb => ?_) (fun hb => ?_)
  ·
   clear hb
   refine AT_region_q fun K5 hK5 => ?_
   simp [hnx]
   repeat refine sg ?_
   refine RVn_callC (c_read_list_api_Expr g (exprC q) b n L (exprC_suf q) hE c hc hcL hn) rfl ?_
   simp [hnx]
   repeat refine sg ?_
   refine hK5 _ ?_
   clear hK5 K5
   try simp only [nrm, reduceIte, Nat.reduceEqDiff]
   refine hK3 _ ?_
   refine AT_seq_region fun K6 hK6 => ?_
   simp [hnx]
   repeat refine sg ?_
   refine RVn_callC (c_read_Cursor_Must g e b _ (by first | (simp only [hnx]; omega) | omega)) rfl ?_
   simp [hnx]
   repeat refine sg ?_
   refine hK6 _ ?_
   clear hK6 K6
   refine AT_seq_region fun K7 hK7 => ?_
   simp [hnx]
   repeat refine sg ?_
   refine hK7 _ ?_
   clear hK7 K7
   refine AT_ret ?_
   simp [Tryd.f62]
   all_goals simp [argsC, hnx]
  ·
   cases hb
 ·
  refine AT_seq_region fun K8 hK8 => ?_
  simp [hnx]
  repeat refine sg ?_
  refine RVn_callC (c_read_Cursor_Next g e b c (by omega)) rfl ?_
  simp [hnx]
  repeat refine sg ?_
  refine hK8 _ ?_
  clear hK8 K8
  refine AT_cond (b := false) (g := none) (by simp [hnx]) (fun hb => ?_) (fun hb => ?_)
  ·
   cases hb
  ·
   clear hb
   refine AT_skip ?_
   try simp only [nrm, reduceIte, Nat.reduceEqDiff]
   refine hK3 _ ?_
   refine AT_seq_region fun K9 hK9 => ?_
   simp [hnx]
   repeat refine sg ?_
   refine RVn_callC (c_read_Cursor_Must g e b _ (by first | (simp only [hnx]; omega) | omega)) rfl ?_
   simp [hnx]
   repeat refine sg ?_
   refine hK9 _ ?_
   clear hK9 K9
   refine AT_seq_region fun K10 hK10 => ?_
   simp [hnx]
   repeat refine sg ?_
   refine hK10 _ ?_
   clear hK10 K10
   refine AT_ret ?_
   simp [Tryd.f62]
   all_goals simp [argsC, hnx]

theorem c_read_Cursor_rest (q b n : Nat) (L : List Tk) (hL : ∀ t ∈ L, t.2.1.length ≤ 1000000) (hLn : L.length < 1000000) (hnm : ∀ s : Str, s.length ≤ 1000000 → Valid Tryd.prog (G0 g false) 53 [.str s] (.bool (isName s))) (hT : ∀ c, c.l.length < n → c.l <:+ L → ValidC Tryd.prog (G0 g false) 39 [] b (encC 110 c) (.agg (encTy (typeC q c).1)) (encC 110 (typeC q c).2)) (hE : ∀ c, c.l.length < n → c.l <:+ L → ValidC Tryd.prog (G0 g false) 41 [] b (encC 110 c) (.agg (encE (exprC q c).1)) (encC 110 (exprC q c).2)) (e : Exp) (c : Cur) (hc : c.l.length < n) (hcL : c.l <:+ L) (hn : n ≤ 1000000) : ValidC Tryd.prog (G0 g false) 63 [.agg (encE e)] b (encC 110 c) (.agg (encE (restC (typeC q) (exprC q) e c).1)) (encC 110 (restC (typeC q) (exprC q) e c).2) := by
 have hcl := hcL.length_le
 have hnl := c.name_suf.length_le
 have hal := c.adv_suf.length_le
 have htl := (typeC_suf q c.adv).length_le
 have hgl := (targsC_suf (typeC_suf q) c.name).length_le
 have hml := ((targsC (typeC q) c.name).2.must_suf [40])
 have hml2 := hml.length_le
 have hcnt := argsC_count (exprC_suf q) [41] ((targsC (typeC q) c.name).2.must [40])
 refine validC_of [(48, 27)] Tryd.func63 rfl (by kernel_rfl) ?_
 refine AT_seq_region fun K1 hK1 => ?_
 simp [encK, Tryd.f63]
 repeat refine sg ?_
 refine hK1 _ ?_
 clear hK1 K1
 refine AT_seq_region fun K2 hK2 => ?_
 simp [encK]
 repeat refine sg ?_
 refine RVn_callC (c_read_Cursor_first g b c (by omega)) rfl ?_
 simp [encK]
 repeat refine sg ?_
 refine hK2 _ ?_
 clear hK2 K2
 refine AT_seq_k fun K3 hK3 => ?_
 cases h40 : c.next [40]
 ·
  refine AT_seq_region fun K4 hK4 => ?_
  simp [encK, Cur.take, h40]
  repeat refine sg ?_
  refine RVn_callC (c_read_Cursor_Take g [40] b c (by omega)) rfl ?_
  simp [encK, Cur.take, h40]
  repeat refine sg ?_
  refine hK4 _ ?_
  clear hK4 K4
  refine AT_cond (b := false) (g := none) (by simp [h40]) (fun hb => ?_) (fun hb => ?_)
  ·
   cases hb
  ·
   clear hb
   refine AT_skip ?_
   try simp only [nrm, reduceIte, Nat.reduceEqDiff]
   refine hK3 _ ?_
   refine AT_seq_region fun K5 hK5 => ?_
   simp [encK, h40]
   repeat refine sg ?_
   refine RVn_callC (c_read_Cursor_Name g b c (by omega) hnm (fun t ht => hL t (hcL.subset ht))) rfl ?_
   simp [encK, h40]
   repeat refine sg ?_
   refine hK5 _ ?_
   clear hK5 K5
   refine AT_seq_k fun K6 hK6 => ?_
   cases h91 : c.name.next [91]
   ·
    cases h40b : c.name.next [40]
    ·
     refine AT_seq_region fun K7 hK7 => ?_
     simp [encK, h40, h91, h40b]
     repeat refine sg ?_
     try (
      refine RVn_callC (c_read_Cursor_Next g [91] b c.name (by omega)) rfl ?_
      simp [encK, h40, h91, h40b]
      repeat refine sg ?_)
     try (
      refine RVn_callC (c_read_Cursor_Next g [40] b c.name (by omega)) rfl ?_
      simp [encK, h40, h91, h40b]
      repeat refine sg ?_)
     refine hK7 _ ?_
     clear hK7 K7
     refine AT_cond (b := true) (g := none) (by simp [h40, h91, h40b]) (fun hb => ?_) (fun hb => ?_)
     ·
      clear hb
      refine AT_seq_region fun K8 hK8 => ?_
      simp [encK, encE_mk, h40, h91, h40b]
      repeat refine sg ?_
      refine hK8 _ ?_
      clear hK8 K8
      refine AT_ret ?_
      simp [encK, Tryd.f63]
      all_goals first | (simp [restC, h40, encE_mk, encTy_def, ty0]; done) | (simp [restC, h40, h91, encE_mk, encTy_def, ty0]; done) | (simp [restC, h40, h91, h40b, encE_mk, encTy_def, ty0]; done)
     ·
      cases hb
    ·
     refine AT_seq_region fun K9 hK9 => ?_
     simp [encK, h40, h91, h40b]
     repeat refine sg ?_
     try (
      refine RVn_callC (c_read_Cursor_Next g [91] b c.name (by omega)) rfl ?_
      simp [encK, h40, h91, h40b]
      repeat refine sg ?_)
     try (
      refine RVn_callC (c_read_Cursor_Next g [40] b c.name (by omega)) rfl ?_
      simp [encK, h40, h91, h40b]
      repeat refine sg ?_)
     refine hK9 _ ?_
     clear hK9 K9
     refine AT_cond (b := false) (g := none) (by simp [h40, h91, h40b]) (fun hb => ?_) (fun hb => ?_)
     ·
      cases hb
     ·
      clear hb
      refine AT_skip ?_
      try simp only [nrm, reduceIte, Nat.reduceEqDiff]
      refine hK6 _ ?_
      refine AT_seq_region fun K10 hK10 => ?_
      simp [encK, encTy_mk, h40, h91, h40b]
      repeat refine sg ?_
      refine RVn_callC (c_read_Cursor_targs g q b n L hT c.name (fun h => by have := (Cur.name_next h).2; have := c.name.adv_suf.length_le; omega) (c.name_suf.trans hcL) hn (by omega)) rfl ?_
      simp [encK, encTy_mk, h40, h91, h40b]
      repeat refine sg ?_
      refine hK10 _ ?_
      clear hK10 K10
      refine AT_seq_region fun K11 hK11 => ?_
      simp [encK, h40, h91, h40b]
      repeat refine sg ?_
      refine RVn_callC (c_read_Cursor_Must g [40] b _ (by omega)) rfl ?_
      simp [encK, h40, h91, h40b]
      repeat refine sg ?_
      refine hK11 _ ?_
      clear hK11 K11
      refine AT_seq_any [0, 4, 7] [4, 7] (fun s => s = { n := 54, tm := [(0, .v (.gp b 0) none), (4, .lp 4 0), (7, .lp 7 0)], bx := [(4, [.int .i64 0, .str [], .str [], .slice [], .int .i64 0, .slice [], .slice [], .int .i64 0]), (7, [.int .i64 2, .str c.nm, .str [], .slice [], .int .i64 0, .slice ((targsC (typeC q) c.name).1.map encTy), .slice ((e :: (argsC (exprC q) [41] ((targsC (typeC q) c.name).2.must [40])).1).map encE), .int .i64 c.at_])], tb := [(7, 6, 48, 27)], sh := [(b, (encC 110 (argsC (exprC q) [41] ((targsC (typeC q) c.name).2.must [40])).2))], hint := [(48, 27)] }) Pt.mixed (fun K hK hQ => ?_) ?_
      ·
       refine ANY_take 2 (by rfl) hQ rfl rfl (by simp) (.inl ⟨_, rfl, rfl⟩) (by kernel_rfl) (by kernel_rfl) (by kernel_rfl) ?_
       refine ANY_ready [0, 3] (by kernel_rfl) (by simp) ?_
       refine AnyAll.cons rfl (fun Ka1 hKa1 => ?_) ?_
       ·
        simp [encK, encE_mk, encTy_def, h40, h91, h40b]
        repeat refine sg ?_
        refine hKa1 _ ?_
        clear hKa1 Ka1
        refine ANY_ready [1, 3] (by kernel_rfl) (by simp) ?_
        refine AnyAll.cons rfl (fun Ka2 hKa2 => ?_) ?_
        ·
         simp [encK, encE_mk, encTy_def, h40, h91, h40b]
         repeat refine sg ?_
         refine hKa2 _ ?_
         clear hKa2 Ka2
         refine ANY_ready [3] (by kernel_rfl) (by simp) ?_
         refine AnyAll.cons rfl (fun Ka3 hKa3 => ?_) ?_
         ·
          simp [encK, encE_mk, encTy_def, h40, h91, h40b]
          repeat refine sg ?_
          refine RVn_callC (c_read_Cursor_args g q b n L hE [41] _ (by omega) (hml.trans ((targsC_suf (typeC_suf q) c.name).trans (c.name_suf.trans hcL))) hn (by omega)) rfl ?_
          simp [encK, encE_mk, encTy_def, h40, h91, h40b]
          repeat refine sg ?_
          refine hKa3 _ ?_
          clear hKa3 Ka3
          refine ANY_ready [4] (by kernel_rfl) (by simp) ?_
          refine AnyAll.cons rfl (fun Ka4 hKa4 => ?_) ?_
          ·
           simp [encK, encE_mk, encTy_def, h40, h91, h40b]
           repeat refine sg ?_
           refine hKa4 _ ?_
           clear hKa4 Ka4
           refine ANY_take 5 (by rfl) hQ rfl rfl (by simp) (.inr ⟨_, _, _, _, _, _, rfl, rfl, Pt.foff_27_4, rfl⟩) (by kernel_rfl) (by kernel_rfl) (by kernel_rfl) ?_
           refine ANY_ready [6] (by kernel_rfl) (by simp) ?_
           refine AnyAll.cons rfl (fun Ka5 hKa5 => ?_) ?_
           ·
            simp [encK, encE_mk, encTy_def, h40, h91, h40b]
            repeat refine sg ?_
            refine hKa5 _ ?_
            clear hKa5 Ka5
            refine ANY_done (by kernel_rfl) ?_
            refine hK _ (by first | rfl | simp) ?_
            simp [encE_mk, encTy_def]
           exact AnyAll.nil
          exact AnyAll.nil
         exact AnyAll.nil
        refine AnyAll.cons rfl (fun Ka6 hKa6 => ?_) ?_
        ·
         simp [encK, encE_mk, encTy_def, h40, h91, h40b]
         repeat refine sg ?_
         refine RVn_callC (c_read_Cursor_args g q b n L hE [41] _ (by omega) (hml.trans ((targsC_suf (typeC_suf q) c.name).trans (c.name_suf.trans hcL))) hn (by omega)) rfl ?_
         simp [encK, encE_mk, encTy_def, h40, h91, h40b]
         repeat refine sg ?_
         refine hKa6 _ ?_
         clear hKa6 Ka6
         refine ANY_ready [1] (by kernel_rfl) (by simp) ?_
         refine AnyAll.cons rfl (fun Ka7 hKa7 => ?_) ?_
         ·
          simp [encK, encE_mk, encTy_def, h40, h91, h40b]
          repeat refine sg ?_
          refine hKa7 _ ?_
          clear hKa7 Ka7
          refine ANY_ready [4] (by kernel_rfl) (by simp) ?_
          refine AnyAll.cons rfl (fun Ka8 hKa8 => ?_) ?_
          ·
           simp [encK, encE_mk, encTy_def, h40, h91, h40b]
           repeat refine sg ?_
           refine hKa8 _ ?_
           clear hKa8 Ka8
           refine ANY_take 5 (by rfl) hQ rfl rfl (by simp) (.inr ⟨_, _, _, _, _, _, rfl, rfl, Pt.foff_27_4, rfl⟩) (by kernel_rfl) (by kernel_rfl) (by kernel_rfl) ?_
           refine ANY_ready [6] (by kernel_rfl) (by simp) ?_
           refine AnyAll.cons rfl (fun Ka9 hKa9 => ?_) ?_
           ·
            simp [encK, encE_mk, encTy_def, h40, h91, h40b]
            repeat refine sg ?_
            refine hKa9 _ ?_
            clear hKa9 Ka9
            refine ANY_done (by kernel_rfl) ?_
            refine hK _ (by first | rfl | simp) ?_
            simp [encE_mk, encTy_def]
           exact AnyAll.nil
          exact AnyAll.nil
         exact AnyAll.nil
        exact AnyAll.nil
       refine AnyAll.cons rfl (fun Ka10 hKa10 => ?_) ?_
       ·
        simp [encK, encE_mk, encTy_def, h40, h91, h40b]
        repeat refine sg ?_
        refine RVn_callC (c_read_Cursor_args g q b n L hE [41] _ (by omega) (hml.trans ((targsC_suf (typeC_suf q) c.name).trans (c.name_suf.trans hcL))) hn (by omega)) rfl ?_
        simp [encK, encE_mk, encTy_def, h40, h91, h40b]
        repeat refine sg ?_
        refine hKa10 _ ?_
        clear hKa10 Ka10
        refine ANY_ready [0] (by kernel_rfl) (by simp) ?_
        refine AnyAll.cons rfl (fun Ka11 hKa11 => ?_) ?_
        ·
         simp [encK, encE_mk, encTy_def, h40, h91, h40b]
         repeat refine sg ?_
         refine hKa11 _ ?_
         clear hKa11 Ka11
         refine ANY_ready [1] (by kernel_rfl) (by simp) ?_
         refine AnyAll.cons rfl (fun Ka12 hKa12 => ?_) ?_
         ·
          simp [encK, encE_mk, encTy_def, h40, h91, h40b]
          repeat refine sg ?_
          refine hKa12 _ ?_
          clear hKa12 Ka12
          refine ANY_ready [4] (by kernel_rfl) (by simp) ?_
          refine AnyAll.cons rfl (fun Ka13 hKa13 => ?_) ?_
          ·
           simp [encK, encE_mk, encTy_def, h40, h91, h40b]
           repeat refine sg ?_
           refine hKa13 _ ?_
           clear hKa13 Ka13
           refine ANY_take 5 (by rfl) hQ rfl rfl (by simp) (.inr ⟨_, _, _, _, _, _, rfl, rfl, Pt.foff_27_4, rfl⟩) (by kernel_rfl) (by kernel_rfl) (by kernel_rfl) ?_
           refine ANY_ready [6] (by kernel_rfl) (by simp) ?_
           refine AnyAll.cons rfl (fun Ka14 hKa14 => ?_) ?_
           ·
            simp [encK, encE_mk, encTy_def, h40, h91, h40b]
            repeat refine sg ?_
            refine hKa14 _ ?_
            clear hKa14 Ka14
            refine ANY_done (by kernel_rfl) ?_
            refine hK _ (by first | rfl | simp) ?_
            simp [encE_mk, encTy_def]
           exact AnyAll.nil
          exact AnyAll.nil
         exact AnyAll.nil
        exact AnyAll.nil
       exact AnyAll.nil
      rintro _ rfl
      refine AT_seq_region fun K12 hK12 => ?_
      simp [encK, h40, h91, h40b]
      repeat refine sg ?_
      refine hK12 _ ?_
      clear hK12 K12
      refine AT_ret ?_
      simp [encK, Tryd.f63]
      all_goals first | (simp [restC, h40, encE_mk, encTy_def, ty0]; done) | (simp [restC, h40, h91, encE_mk, encTy_def, ty0]; done) | (simp [restC, h40, h91, h40b, encE_mk, encTy_def, ty0]; done)
   ·
    refine AT_seq_region fun K13 hK13 => ?_
    simp [encK, h40, h91]
    repeat refine sg ?_
    try (
     refine RVn_callC (c_read_Cursor_Next g [91] b c.name (by omega)) rfl ?_
     simp [encK, h40, h91]
     repeat refine sg ?_)
    try (
     refine RVn_callC (c_read_Cursor_Next g [40] b c.name (by omega)) rfl ?_
     simp [encK, h40, h91]
     repeat refine sg ?_)
    refine hK13 _ ?_
    clear hK13 K13
    refine AT_cond (b := false) (g := none) (by simp [h40, h91]) (fun hb => ?_) (fun hb => ?_)
    ·
     cases hb
    ·
     clear hb
     refine AT_skip ?_
     try simp only [nrm, reduceIte, Nat.reduceEqDiff]
     refine hK6 _ ?_
     refine AT_seq_region fun K14 hK14 => ?_
     simp [encK, encTy_mk, h40, h91]
     repeat refine sg ?_
     refine RVn_callC (c_read_Cursor_targs g q b n L hT c.name (fun h => by have := (Cur.name_next h).2; have := c.name.adv_suf.length_le; omega) (c.name_suf.trans hcL) hn (by omega)) rfl ?_
     simp [encK, encTy_mk, h40, h91]
     repeat refine sg ?_
     refine hK14 _ ?_
     clear hK14 K14
     refine AT_seq_region fun K15 hK15 => ?_
     simp [encK, h40, h91]
     repeat refine sg ?_
     refine RVn_callC (c_read_Cursor_Must g [40] b _ (by omega)) rfl ?_
     simp [encK, h40, h91]
     repeat refine sg ?_
     refine hK15 _ ?_
     clear hK15 K15
     refine AT_seq_any [0, 4, 7] [4, 7] (fun s => s = { n := 54, tm := [(0, .v (.gp b 0) none), (4, .lp 4 0), (7, .lp 7 0)], bx := [(4, [.int .i64 0, .str [], .str [], .slice [], .int .i64 0, .slice [], .slice [], .int .i64 0]), (7, [.int .i64 2, .str c.nm, .str [], .slice [], .int .i64 0, .slice ((targsC (typeC q) c.name).1.map encTy), .slice ((e :: (argsC (exprC q) [41] ((targsC (typeC q) c.name).2.must [40])).1).map encE), .int .i64 c.at_])], tb := [(7, 6, 48, 27)], sh := [(b, (encC 110 (argsC (exprC q) [41] ((targsC (typeC q) c.name).2.must [40])).2))], hint := [(48, 27)] }) Pt.mixed (fun K hK hQ => ?_) ?_
     ·
      refine ANY_take 2 (by rfl) hQ rfl rfl (by simp) (.inl ⟨_, rfl, rfl⟩) (by kernel_rfl) (by kernel_rfl) (by kernel_rfl) ?_
      refine ANY_ready [0, 3] (by kernel_rfl) (by simp) ?_
      refine AnyAll.cons rfl (fun Ka1 hKa1 => ?_) ?_
      ·
       simp [encK, encE_mk, encTy_def, h40, h91]
       repeat refine sg ?_
       refine hKa1 _ ?_
       clear hKa1 Ka1
       refine ANY_ready [1, 3] (by kernel_rfl) (by simp) ?_
       refine AnyAll.cons rfl (fun Ka2 hKa2 => ?_) ?_
       ·
        simp [encK, encE_mk, encTy_def, h40, h91]
        repeat refine sg ?_
        refine hKa2 _ ?_
        clear hKa2 Ka2
        refine ANY_ready [3] (by kernel_rfl) (by simp) ?_
        refine AnyAll.cons rfl (fun Ka3 hKa3 => ?_) ?_
        ·
         simp [encK, encE_mk, encTy_def, h40, h91]
         repeat refine sg ?_
         refine RVn_callC (c_read_Cursor_args g q b n L hE [41] _ (by omega) (hml.trans ((targsC_suf (typeC_suf q) c.name).trans (c.name_suf.trans hcL))) hn (by omega)) rfl ?_
         simp [encK, encE_mk, encTy_def, h40, h91]
         repeat refine sg ?_
         refine hKa3 _ ?_
         clear hKa3 Ka3
         refine ANY_ready [4] (by kernel_rfl) (by simp) ?_
         refine AnyAll.cons rfl (fun Ka4 hKa4 => ?_) ?_
         ·
          simp [encK, encE_mk, encTy_def, h40, h91]
          repeat refine sg ?_
          refine hKa4 _ ?_
          clear hKa4 Ka4
          refine ANY_take 5 (by rfl) hQ rfl rfl (by simp) (.inr ⟨_, _, _, _, _, _, rfl, rfl, Pt.foff_27_4, rfl⟩) (by kernel_rfl) (by kernel_rfl) (by kernel_rfl) ?_
          refine ANY_ready [6] (by kernel_rfl) (by simp) ?_
          refine AnyAll.cons rfl (fun Ka5 hKa5 => ?_) ?_
          ·
           simp [encK, encE_mk, encTy_def, h40, h91]
           repeat refine sg ?_
           refine hKa5 _ ?_
           clear hKa5 Ka5
           refine ANY_done (by kernel_rfl) ?_
           refine hK _ (by first | rfl | simp) ?_
           simp [encE_mk, encTy_def]
          exact AnyAll.nil
         exact AnyAll.nil
        exact AnyAll.nil
       refine AnyAll.cons rfl (fun Ka6 hKa6 => ?_) ?_
       ·
        simp [encK, encE_mk, encTy_def, h40, h91]
        repeat refine sg ?_
        refine RVn_callC (c_read_Cursor_args g q b n L hE [41] _ (by omega) (hml.trans ((targsC_suf (typeC_suf q) c.name).trans (c.name_suf.trans hcL))) hn (by omega)) rfl ?_
        simp [encK, encE_mk, encTy_def, h40, h91]
        repeat refine sg ?_
        refine hKa6 _ ?_
        clear hKa6 Ka6
        refine ANY_ready [1] (by kernel_rfl) (by simp) ?_
        refine AnyAll.cons rfl (fun Ka7 hKa7 => ?_) ?_
        ·
         simp [encK, encE_mk, encTy_def, h40, h91]
         repeat refine sg ?_
         refine hKa7 _ ?_
         clear hKa7 Ka7
         refine ANY_ready [4] (by kernel_rfl) (by simp) ?_
         refine AnyAll.cons rfl (fun Ka8 hKa8 => ?_) ?_
         ·
          simp [encK, encE_mk, encTy_def, h40, h91]
          repeat refine sg ?_
          refine hKa8 _ ?_
          clear hKa8 Ka8
          refine ANY_take 5 (by rfl) hQ rfl rfl (by simp) (.inr ⟨_, _, _, _, _, _, rfl, rfl, Pt.foff_27_4, rfl⟩) (by kernel_rfl) (by kernel_rfl) (by kernel_rfl) ?_
          refine ANY_ready [6] (by kernel_rfl) (by simp) ?_
          refine AnyAll.cons rfl (fun Ka9 hKa9 => ?_) ?_
          ·
           simp [encK, encE_mk, encTy_def, h40, h91]
           repeat refine sg ?_
           refine hKa9 _ ?_
           clear hKa9 Ka9
           refine ANY_done (by kernel_rfl) ?_
           refine hK _ (by first | rfl | simp) ?_
           simp [encE_mk, encTy_def]
          exact AnyAll.nil
         exact AnyAll.nil
        exact AnyAll.nil
       exact AnyAll.nil
      refine AnyAll.cons rfl (fun Ka10 hKa10 => ?_) ?_
      ·
       simp [encK, encE_mk, encTy_def, h40, h91]
       repeat refine sg ?_
       refine RVn_callC (c_read_Cursor_args g q b n L hE [41] _ (by omega) (hml.trans ((targsC_suf (typeC_suf q) c.name).trans (c.name_suf.trans hcL))) hn (by omega)) rfl ?_
       simp [encK, encE_mk, encTy_def, h40, h91]
       repeat refine sg ?_
       refine hKa10 _ ?_
       clear hKa10 Ka10
       refine ANY_ready [0] (by kernel_rfl) (by simp) ?_
       refine AnyAll.cons rfl (fun Ka11 hKa11 => ?_) ?_
       ·
        simp [encK, encE_mk, encTy_def, h40, h91]
        repeat refine sg ?_
        refine hKa11 _ ?_
        clear hKa11 Ka11
        refine ANY_ready [1] (by kernel_rfl) (by simp) ?_
        refine AnyAll.cons rfl (fun Ka12 hKa12 => ?_) ?_
        ·
         simp [encK, encE_mk, encTy_def, h40, h91]
         repeat refine sg ?_
         refine hKa12 _ ?_
         clear hKa12 Ka12
         refine ANY_ready [4] (by kernel_rfl) (by simp) ?_
         refine AnyAll.cons rfl (fun Ka13 hKa13 => ?_) ?_
         ·
          simp [encK, encE_mk, encTy_def, h40, h91]
          repeat refine sg ?_
          refine hKa13 _ ?_
          clear hKa13 Ka13
          refine ANY_take 5 (by rfl) hQ rfl rfl (by simp) (.inr ⟨_, _, _, _, _, _, rfl, rfl, Pt.foff_27_4, rfl⟩) (by kernel_rfl) (by kernel_rfl) (by kernel_rfl) ?_
          refine ANY_ready [6] (by kernel_rfl) (by simp) ?_
          refine AnyAll.cons rfl (fun Ka14 hKa14 => ?_) ?_
          ·
           simp [encK, encE_mk, encTy_def, h40, h91]
           repeat refine sg ?_
           refine hKa14 _ ?_
           clear hKa14 Ka14
           refine ANY_done (by kernel_rfl) ?_
           refine hK _ (by first | rfl | simp) ?_
           simp [encE_mk, encTy_def]
          exact AnyAll.nil
         exact AnyAll.nil
        exact AnyAll.nil
       exact AnyAll.nil
      exact AnyAll.nil
     rintro _ rfl
     refine AT_seq_region fun K16 hK16 => ?_
     simp [encK, h40, h91]
     repeat refine sg ?_
     refine hK16 _ ?_
     clear hK16 K16
     refine AT_ret ?_
     simp [encK, Tryd.f63]
     all_goals first | (simp [restC, h40, encE_mk, encTy_def, ty0]; done) | (simp [restC, h40, h91, encE_mk, encTy_def, ty0]; done) | (simp [restC, h40, h91, h40b, encE_mk, encTy_def, ty0]; done)
 ·
  refine AT_seq_region fun K17 hK17 => ?_
  simp [encK, Cur.take, h40]
  repeat refine sg ?_
  refine RVn_callC (c_read_Cursor_Take g [40] b c (by omega)) rfl ?_
  simp [encK, Cur.take, h40]
  repeat refine sg ?_
  refine hK17 _ ?_
  clear hK17 K17
  refine AT_cond (b := true) (g := none) (by simp [h40]) (fun hb => ?_) (fun hb => ?_)
  ·
   clear hb
   refine AT_seq_any [0, 3, 4] [3, 4] (fun s => s = { n := 54, tm := [(0, .v (.gp b 0) none), (3, .lp 3 0), (4, .lp 4 0)], bx := [(3, encE (.mk 5 [] (typeC q c.adv).1 [] [e] c.first.2.2)), (4, [.int .i64 0, .str [], .str [], .slice [], .int .i64 0, .slice [], .slice [], .int .i64 0])], tb := [], sh := [(b, (encC 110 (typeC q c.adv).2))], hint := [(48, 27)] }) Pt.mixed (fun K hK hQ => ?_) ?_
   ·
    refine ANY_take 2 (by rfl) hQ rfl rfl (by simp) (.inl ⟨_, rfl, rfl⟩) (by kernel_rfl) (by kernel_rfl) (by kernel_rfl) ?_
    refine ANY_take 4 (by rfl) hQ rfl rfl (by simp) (.inl ⟨_, rfl, rfl⟩) (by kernel_rfl) (by kernel_rfl) (by kernel_rfl) ?_
    refine ANY_ready [0, 3] (by kernel_rfl) (by simp) ?_
    refine AnyAll.cons rfl (fun Ka1 hKa1 => ?_) ?_
    ·
     simp [encK, encE_mk, encTy_def, h40]
     repeat refine sg ?_
     refine hKa1 _ ?_
     clear hKa1 Ka1
     refine ANY_ready [1, 3] (by kernel_rfl) (by simp) ?_
     refine AnyAll.cons rfl (fun Ka2 hKa2 => ?_) ?_
     ·
      simp [encK, encE_mk, encTy_def, h40]
      repeat refine sg ?_
      refine hKa2 _ ?_
      clear hKa2 Ka2
      refine ANY_ready [3] (by kernel_rfl) (by simp) ?_
      refine AnyAll.cons rfl (fun Ka3 hKa3 => ?_) ?_
      ·
       simp [encK, encE_mk, encTy_def, h40]
       repeat refine sg ?_
       refine RVn_callC (hT c.adv (by omega) (c.adv_suf.trans hcL)) rfl ?_
       simp [encK, encE_mk, encTy_def, h40]
       repeat refine sg ?_
       refine hKa3 _ ?_
       clear hKa3 Ka3
       refine ANY_ready [5] (by kernel_rfl) (by simp) ?_
       refine AnyAll.cons rfl (fun Ka4 hKa4 => ?_) ?_
       ·
        simp [encK, encE_mk, encTy_def, h40]
        repeat refine sg ?_
        refine hKa4 _ ?_
        clear hKa4 Ka4
        refine ANY_ready [6] (by kernel_rfl) (by simp) ?_
        refine AnyAll.cons rfl (fun Ka5 hKa5 => ?_) ?_
        ·
         simp [encK, encE_mk, encTy_def, h40]
         repeat refine sg ?_
         refine hKa5 _ ?_
         clear hKa5 Ka5
         refine ANY_done (by kernel_rfl) ?_
         refine hK _ (by first | rfl | simp) ?_
         simp [encE_mk, encTy_def]
        exact AnyAll.nil
       exact AnyAll.nil
      exact AnyAll.nil
     refine AnyAll.cons rfl (fun Ka6 hKa6 => ?_) ?_
     ·
      simp [encK, encE_mk, encTy_def, h40]
      repeat refine sg ?_
      refine RVn_callC (hT c.adv (by omega) (c.adv_suf.trans hcL)) rfl ?_
      simp [encK, encE_mk, encTy_def, h40]
      repeat refine sg ?_
      refine hKa6 _ ?_
      clear hKa6 Ka6
      refine ANY_ready [1] (by kernel_rfl) (by simp) ?_
      refine AnyAll.cons rfl (fun Ka7 hKa7 => ?_) ?_
      ·
       simp [encK, encE_mk, encTy_def, h40]
       repeat refine sg ?_
       refine hKa7 _ ?_
       clear hKa7 Ka7
       refine ANY_ready [5] (by kernel_rfl) (by simp) ?_
       refine AnyAll.cons rfl (fun Ka8 hKa8 => ?_) ?_
       ·
        simp [encK, encE_mk, encTy_def, h40]
        repeat refine sg ?_
        refine hKa8 _ ?_
        clear hKa8 Ka8
        refine ANY_ready [6] (by kernel_rfl) (by simp) ?_
        refine AnyAll.cons rfl (fun Ka9 hKa9 => ?_) ?_
        ·
         simp [encK, encE_mk, encTy_def, h40]
         repeat refine sg ?_
         refine hKa9 _ ?_
         clear hKa9 Ka9
         refine ANY_done (by kernel_rfl) ?_
         refine hK _ (by first | rfl | simp) ?_
         simp [encE_mk, encTy_def]
        exact AnyAll.nil
       exact AnyAll.nil
      exact AnyAll.nil
     exact AnyAll.nil
    refine AnyAll.cons rfl (fun Ka10 hKa10 => ?_) ?_
    ·
     simp [encK, encE_mk, encTy_def, h40]
     repeat refine sg ?_
     refine RVn_callC (hT c.adv (by omega) (c.adv_suf.trans hcL)) rfl ?_
     simp [encK, encE_mk, encTy_def, h40]
     repeat refine sg ?_
     refine hKa10 _ ?_
     clear hKa10 Ka10
     refine ANY_ready [0] (by kernel_rfl) (by simp) ?_
     refine AnyAll.cons rfl (fun Ka11 hKa11 => ?_) ?_
     ·
      simp [encK, encE_mk, encTy_def, h40]
      repeat refine sg ?_
      refine hKa11 _ ?_
      clear hKa11 Ka11
      refine ANY_ready [1] (by kernel_rfl) (by simp) ?_
      refine AnyAll.cons rfl (fun Ka12 hKa12 => ?_) ?_
      ·
       simp [encK, encE_mk, encTy_def, h40]
       repeat refine sg ?_
       refine hKa12 _ ?_
       clear hKa12 Ka12
       refine ANY_ready [5] (by kernel_rfl) (by simp) ?_
       refine AnyAll.cons rfl (fun Ka13 hKa13 => ?_) ?_
       ·
        simp [encK, encE_mk, encTy_def, h40]
        repeat refine sg ?_
        refine hKa13 _ ?_
        clear hKa13 Ka13
        refine ANY_ready [6] (by kernel_rfl) (by simp) ?_
        refine AnyAll.cons rfl (fun Ka14 hKa14 => ?_) ?_
        ·
         simp [encK, encE_mk, encTy_def, h40]
         repeat refine sg ?_
         refine hKa14 _ ?_
         clear hKa14 Ka14
         refine ANY_done (by kernel_rfl) ?_
         refine hK _ (by first | rfl | simp) ?_
         simp [encE_mk, encTy_def]
        exact AnyAll.nil
       exact AnyAll.nil
      exact AnyAll.nil
     exact AnyAll.nil
    exact AnyAll.nil
   rintro _ rfl
   refine AT_seq_region fun K18 hK18 => ?_
   simp [encK, h40]
   repeat refine sg ?_
   refine RVn_callC (c_read_Cursor_Must g [41] b _ (by omega)) rfl ?_
   simp [encK, h40]
   repeat refine sg ?_
   refine hK18 _ ?_
   clear hK18 K18
   refine AT_seq_region fun K19 hK19 => ?_
   simp [encK, h40]
   repeat refine sg ?_
   refine hK19 _ ?_
   clear hK19 K19
   refine AT_ret ?_
   simp [encK, Tryd.f63]
   all_goals first | (simp [restC, h40, encE_mk, encTy_def, ty0]; done) | (simp [restC, h40, h91, encE_mk, encTy_def, ty0]; done) | (simp [restC, h40, h91, h40b, encE_mk, encTy_def, ty0]; done)
  ·
   cases hb

theorem c_read_Cursor_Expr (b : Nat) (L : List Tk) (hL : ∀ t ∈ L, t.2.1.length ≤ 1000000) (hLn : L.length < 1000000) (hnm : ∀ s : Str, s.length ≤ 1000000 → Valid Tryd.prog (G0 g false) 53 [.str s] (.bool (isName s))) : ∀ (n : Nat) (c : Cur), c.l.length < n → n ≤ 1000000 → c.l <:+ L → ValidC Tryd.prog (G0 g false) 41 [] b (encC 110 c) (.agg (encE (exprC n c).1)) (encC 110 (exprC n c).2) := by
 intro n
 induction n with
 | zero => intro c hc; omega
 | succ q ih =>
 intro c hc hq hcL
 have hcl := hcL.length_le
 have hnl := c.name_suf.length_le
 have hT := fun c h h2 => c_read_Cursor_Type g b L hL hLn hnm q c h (by omega) h2
 have hE := fun c h h2 => ih c h (by omega) h2
 have hbs := baseC_suf (typeC_suf q) (exprC_suf q) c
 have hbl := hbs.length_le
 have hgs := (targsC_suf (typeC_suf q) c.name)
 have hgl := hgs.length_le
 have hms := (targsC (typeC q) c.name).2.must_suf [123]
 have hml := hms.length_le
 have hrs := restC_suf (typeC_suf q) (exprC_suf q)
 have hrl := fun e c => (hrs e c).length_le
 refine validC_of [] Tryd.func41 rfl (by kernel_rfl) ?_
 refine AT_seq_region fun K1 hK1 => ?_
 simp [encE_mk, Tryd.f41]
 repeat refine sg ?_
 refine hK1 _ ?_
 clear hK1 K1
 refine AT_seq_region fun K2 hK2 => ?_
 simp [encE_mk]
 repeat refine sg ?_
 refine RVn_callC (c_read_Cursor_Name g b c (by omega) hnm (fun t ht => hL t (hcL.subset ht))) rfl ?_
 simp [encE_mk]
 repeat refine sg ?_
 refine hK2 _ ?_
 clear hK2 K2
 refine AT_seq_region fun K3 hK3 => ?_
 simp [encE_mk]
 repeat refine sg ?_
 refine hK3 _ ?_
 clear hK3 K3
 refine AT_seq_k fun K4 hK4 => ?_
 cases h91 : c.name.next [91]
 ·
  cases h123 : c.name.next [123]
  ·
   refine AT_seq_region fun K5 hK5 => ?_
   simp [encE_mk, h91, h123]
   repeat refine sg ?_
   try (
    refine RVn_callC (c_read_Cursor_Next g [91] b c.name (by omega)) rfl ?_
    simp [encE_mk, h91, h123]
    repeat refine sg ?_)
   try (
    refine RVn_callC (c_read_Cursor_Next g [123] b c.name (by omega)) rfl ?_
    simp [encE_mk, h91, h123]
    repeat refine sg ?_)
   refine hK5 _ ?_
   clear hK5 K5
   refine AT_cond (b := false) (g := none) (by simp [h91, h123]) (fun hb => ?_) (fun hb => ?_)
   ·
    cases hb
   ·
    clear hb
    refine AT_skip ?_
    try simp only [nrm, reduceIte, Nat.reduceEqDiff]
    refine hK4 _ ?_
    refine AT_seq_k fun K6 hK6 => ?_
    refine AT_block ?_
    refine AT_loop_q [0,2,5] [2,5] (fun j s => ∃ k e, dotsC (restC (typeC q) (exprC q)) (baseC (typeC q) (exprC q) c).2.l.length (baseC (typeC q) (exprC q) c).1 (baseC (typeC q) (exprC q) c).2 = dotsC (restC (typeC q) (exprC q)) k.l.length e k ∧ k.l <:+ c.l ∧ j = k.l.length ∧ s = { n := 38, tm := [(0, .v (.gp b 0) none), (2, .lp 2 0), (5, .lp 5 0)], bx := [(2, [.int .i64 0, .str [], .str [], .slice [], .int .i64 0, .slice [], .slice [], .int .i64 0]), (5, encE e)], tb := [], sh := [(b, (encC 110 k))], hint := [] }) ((baseC (typeC q) (exprC q) c).2.l.length) (by first | rfl | simp) ?_ ?_
    ·
     refine ⟨(baseC (typeC q) (exprC q) c).2, (baseC (typeC q) (exprC q) c).1, rfl, hbs, rfl, ?_⟩
     first
     | (simp [baseC, h91, h123, encE_mk, ty0]; done)
     | (simp [baseC, h91, encE_mk]; done)
     | (simp [baseC, h123, encE_mk]; done)
    ·
     rintro j s ⟨k, e, hk, hkc, rfl, rfl⟩ K7 hK7
     refine AT_seq_k fun K8 hK8 => ?_
     have hkl := hkc.length_le
     cases hnx : k.next [46]
     ·
      refine AT_seq_region fun K9 hK9 => ?_
      simp [encE_mk, Cur.take, h91, h123, hnx]
      repeat refine sg ?_
      refine RVn_callC (c_read_Cursor_Take g [46] b k (by omega)) rfl ?_
      simp [encE_mk, Cur.take, h91, h123, hnx]
      repeat refine sg ?_
      refine hK9 _ ?_
      clear hK9 K9
      refine AT_cond (b := false) (g := none) (by simp [h91, h123, hnx]) (fun hb => ?_) (fun hb => ?_)
      ·
       cases hb
      ·
       clear hb
       refine AT_exit ?_
       try simp only [nrm, reduceIte, Nat.reduceEqDiff]
       refine hK6 _ ?_
       refine AT_seq_region fun K10 hK10 => ?_
       simp [encE_mk, h91, h123, hnx]
       repeat refine sg ?_
       refine hK10 _ ?_
       clear hK10 K10
       refine AT_ret ?_
       simp [encE_mk, Tryd.f41]
       rw [exprC, hk, dotsC_at hrl, if_neg (by simp [hnx])]; simp
     ·
      have ha := Cur.adv_len hnx
      have hla := hrl e k.adv
      refine AT_seq_region fun K11 hK11 => ?_
      simp [encE_mk, Cur.take, h91, h123, hnx]
      repeat refine sg ?_
      refine RVn_callC (c_read_Cursor_Take g [46] b k (by omega)) rfl ?_
      simp [encE_mk, Cur.take, h91, h123, hnx]
      repeat refine sg ?_
      refine hK11 _ ?_
      clear hK11 K11
      refine AT_cond (b := true) (g := none) (by simp [h91, h123, hnx]) (fun hb => ?_) (fun hb => ?_)
      ·
       clear hb
       refine AT_skip ?_
       try simp only [nrm, reduceIte, Nat.reduceEqDiff]
       refine hK8 _ ?_
       refine AT_block ?_
       refine AT_region_q fun K12 hK12 => ?_
       simp [encE_mk, h91, h123, hnx]
       repeat refine sg ?_
       refine RVn_callC (c_read_Cursor_rest g q b q L hL hLn hnm hT hE e k.adv (by omega) (k.adv_suf.trans (hkc.trans hcL)) (by omega)) rfl ?_
       simp [encE_mk, h91, h123, hnx]
       repeat refine sg ?_
       refine hK12 _ ?_
       clear hK12 K12
       try simp only [nrm, reduceIte, Nat.reduceEqDiff]
       refine hK7 _ (by first | rfl | simp) ((restC (typeC q) (exprC q) e k.adv).2.l.length) (by omega) ?_
       exact ⟨(restC (typeC q) (exprC q) e k.adv).2, (restC (typeC q) (exprC q) e k.adv).1, by rw [hk, dotsC_at hrl, if_pos hnx], (hrs _ _).trans (k.adv_suf.trans hkc), rfl, by simp⟩
      ·
       cases hb
  ·
   have hnn := (Cur.name_next h123).2
   refine AT_seq_region fun K13 hK13 => ?_
   simp [encE_mk, h91, h123]
   repeat refine sg ?_
   try (
    refine RVn_callC (c_read_Cursor_Next g [91] b c.name (by omega)) rfl ?_
    simp [encE_mk, h91, h123]
    repeat refine sg ?_)
   try (
    refine RVn_callC (c_read_Cursor_Next g [123] b c.name (by omega)) rfl ?_
    simp [encE_mk, h91, h123]
    repeat refine sg ?_)
   refine hK13 _ ?_
   clear hK13 K13
   refine AT_cond (b := true) (g := none) (by simp [h91, h123]) (fun hb => ?_) (fun hb => ?_)
   ·
    clear hb
    refine AT_seq_region fun K14 hK14 => ?_
    simp [encE_mk, encTy_mk, h91, h123]
    repeat refine sg ?_
    refine RVn_callC (c_read_Cursor_targs g q b q L hT c.name (fun h => by have := (Cur.name_next h).2; have := c.name.adv_suf.length_le; omega) (c.name_suf.trans hcL) (by omega) (by omega)) rfl ?_
    simp [encE_mk, encTy_mk, h91, h123]
    repeat refine sg ?_
    refine hK14 _ ?_
    clear hK14 K14
    refine AT_seq_region fun K15 hK15 => ?_
    simp [encE_mk, h91, h123]
    repeat refine sg ?_
    refine RVn_callC (c_read_Cursor_Must g [123] b _ (by omega)) rfl ?_
    simp [encE_mk, h91, h123]
    repeat refine sg ?_
    refine hK15 _ ?_
    clear hK15 K15
    refine AT_region_q fun K16 hK16 => ?_
    simp [encE_mk, h91, h123]
    repeat refine sg ?_
    refine RVn_callC (c_read_Cursor_args g q b q L hE [125] _ (by omega) (hms.trans (hgs.trans (c.name_suf.trans hcL))) (by omega) (by omega)) rfl ?_
    simp [encE_mk, h91, h123]
    repeat refine sg ?_
    refine hK16 _ ?_
    clear hK16 K16
    try simp only [nrm, reduceIte, Nat.reduceEqDiff]
    refine hK4 _ ?_
    refine AT_seq_k fun K17 hK17 => ?_
    refine AT_block ?_
    refine AT_loop_q [0,2,5] [2,5] (fun j s => ∃ k e, dotsC (restC (typeC q) (exprC q)) (baseC (typeC q) (exprC q) c).2.l.length (baseC (typeC q) (exprC q) c).1 (baseC (typeC q) (exprC q) c).2 = dotsC (restC (typeC q) (exprC q)) k.l.length e k ∧ k.l <:+ c.l ∧ j = k.l.length ∧ s = { n := 38, tm := [(0, .v (.gp b 0) none), (2, .lp 2 0), (5, .lp 5 0)], bx := [(2, [.int .i64 0, .str [], .str [], .slice [], .int .i64 0, .slice [], .slice [], .int .i64 0]), (5, encE e)], tb := [], sh := [(b, (encC 110 k))], hint := [] }) ((baseC (typeC q) (exprC q) c).2.l.length) (by first | rfl | simp) ?_ ?_
    ·
     refine ⟨(baseC (typeC q) (exprC q) c).2, (baseC (typeC q) (exprC q) c).1, rfl, hbs, rfl, ?_⟩
     first
     | (simp [baseC, h91, h123, encE_mk, ty0]; done)
     | (simp [baseC, h91, encE_mk]; done)
     | (simp [baseC, h123, encE_mk]; done)
    ·
     rintro j s ⟨k, e, hk, hkc, rfl, rfl⟩ K18 hK18
     refine AT_seq_k fun K19 hK19 => ?_
     have hkl := hkc.length_le
     cases hnx : k.next [46]
     ·
      refine AT_seq_region fun K20 hK20 => ?_
      simp [encE_mk, Cur.take, h91, h123, hnx]
      repeat refine sg ?_
      refine RVn_callC (c_read_Cursor_Take g [46] b k (by omega)) rfl ?_
      simp [encE_mk, Cur.take, h91, h123, hnx]
      repeat refine sg ?_
      refine hK20 _ ?_
      clear hK20 K20
      refine AT_cond (b := false) (g := none) (by simp [h91, h123, hnx]) (fun hb => ?_) (fun hb => ?_)
      ·
       cases hb
      ·
       clear hb
       refine AT_exit ?_
       try simp only [nrm, reduceIte, Nat.reduceEqDiff]
       refine hK17 _ ?_
       refine AT_seq_region fun K21 hK21 => ?_
       simp [encE_mk, h91, h123, hnx]
       repeat refine sg ?_
       refine hK21 _ ?_
       clear hK21 K21
       refine AT_ret ?_
       simp [encE_mk, Tryd.f41]
       rw [exprC, hk, dotsC_at hrl, if_neg (by simp [hnx])]; simp
     ·
      have ha := Cur.adv_len hnx
      have hla := hrl e k.adv
      refine AT_seq_region fun K22 hK22 => ?_
      simp [encE_mk, Cur.take, h91, h123, hnx]
      repeat refine sg ?_
      refine RVn_callC (c_read_Cursor_Take g [46] b k (by omega)) rfl ?_
      simp [encE_mk, Cur.take, h91, h123, hnx]
      repeat refine sg ?_
      refine hK22 _ ?_
      clear hK22 K22
      refine AT_cond (b := true) (g := none) (by simp [h91, h123, hnx]) (fun hb => ?_) (fun hb => ?_)
      ·
       clear hb
       refine AT_skip ?_
       try simp only [nrm, reduceIte, Nat.reduceEqDiff]
       refine hK19 _ ?_
       refine AT_block ?_
       refine AT_region_q fun K23 hK23 => ?_
       simp [encE_mk, h91, h123, hnx]
       repeat refine sg ?_
       refine RVn_callC (c_read_Cursor_rest g q b q L hL hLn hnm hT hE e k.adv (by omega) (k.adv_suf.trans (hkc.trans hcL)) (by omega)) rfl ?_
       simp [encE_mk, h91, h123, hnx]
       repeat refine sg ?_
       refine hK23 _ ?_
       clear hK23 K23
       try simp only [nrm, reduceIte, Nat.reduceEqDiff]
       refine hK18 _ (by first | rfl | simp) ((restC (typeC q) (exprC q) e k.adv).2.l.length) (by omega) ?_
       exact ⟨(restC (typeC q) (exprC q) e k.adv).2, (restC (typeC q) (exprC q) e k.adv).1, by rw [hk, dotsC_at hrl, if_pos hnx], (hrs _ _).trans (k.adv_suf.trans hkc), rfl, by simp⟩
      ·
       cases hb
   ·
    cases hb
 ·
  have hnn := (Cur.name_next h91).2
  refine AT_seq_region fun K24 hK24 => ?_
  simp [encE_mk, h91]
  repeat refine sg ?_
  try (
   refine RVn_callC (c_read_Cursor_Next g [91] b c.name (by omega)) rfl ?_
   simp [encE_mk, h91]
   repeat refine sg ?_)
  try (
   refine RVn_callC (c_read_Cursor_Next g [123] b c.name (by omega)) rfl ?_
   simp [encE_mk, h91]
   repeat refine sg ?_)
  refine hK24 _ ?_
  clear hK24 K24
  refine AT_cond (b := true) (g := none) (by simp [h91]) (fun hb => ?_) (fun hb => ?_)
  ·
   clear hb
   refine AT_seq_region fun K25 hK25 => ?_
   simp [encE_mk, encTy_mk, h91]
   repeat refine sg ?_
   refine RVn_callC (c_read_Cursor_targs g q b q L hT c.name (fun h => by have := (Cur.name_next h).2; have := c.name.adv_suf.length_le; omega) (c.name_suf.trans hcL) (by omega) (by omega)) rfl ?_
   simp [encE_mk, encTy_mk, h91]
   repeat refine sg ?_
   refine hK25 _ ?_
   clear hK25 K25
   refine AT_seq_region fun K26 hK26 => ?_
   simp [encE_mk, h91]
   repeat refine sg ?_
   refine RVn_callC (c_read_Cursor_Must g [123] b _ (by omega)) rfl ?_
   simp [encE_mk, h91]
   repeat refine sg ?_
   refine hK26 _ ?_
   clear hK26 K26
   refine AT_region_q fun K27 hK27 => ?_
   simp [encE_mk, h91]
   repeat refine sg ?_
   refine RVn_callC (c_read_Cursor_args g q b q L hE [125] _ (by omega) (hms.trans (hgs.trans (c.name_suf.trans hcL))) (by omega) (by omega)) rfl ?_
   simp [encE_mk, h91]
   repeat refine sg ?_
   refine hK27 _ ?_
   clear hK27 K27
   try simp only [nrm, reduceIte, Nat.reduceEqDiff]
   refine hK4 _ ?_
   refine AT_seq_k fun K28 hK28 => ?_
   refine AT_block ?_
   refine AT_loop_q [0,2,5] [2,5] (fun j s => ∃ k e, dotsC (restC (typeC q) (exprC q)) (baseC (typeC q) (exprC q) c).2.l.length (baseC (typeC q) (exprC q) c).1 (baseC (typeC q) (exprC q) c).2 = dotsC (restC (typeC q) (exprC q)) k.l.length e k ∧ k.l <:+ c.l ∧ j = k.l.length ∧ s = { n := 38, tm := [(0, .v (.gp b 0) none), (2, .lp 2 0), (5, .lp 5 0)], bx := [(2, [.int .i64 0, .str [], .str [], .slice [], .int .i64 0, .slice [], .slice [], .int .i64 0]), (5, encE e)], tb := [], sh := [(b, (encC 110 k))], hint := [] }) ((baseC (typeC q) (exprC q) c).2.l.length) (by first | rfl | simp) ?_ ?_
   ·
    refine ⟨(baseC (typeC q) (exprC q) c).2, (baseC (typeC q) (exprC q) c).1, rfl, hbs, rfl, ?_⟩
    first
    | (simp [baseC, h91, h123, encE_mk, ty0]; done)
    | (simp [baseC, h91, encE_mk]; done)
    | (simp [baseC, h123, encE_mk]; done)
   ·
    rintro j s ⟨k, e, hk, hkc, rfl, rfl⟩ K29 hK29
    refine AT_seq_k fun K30 hK30 => ?_
    have hkl := hkc.length_le
    cases hnx : k.next [46]
    ·
     refine AT_seq_region fun K31 hK31 => ?_
     simp [encE_mk, Cur.take, h91, hnx]
     repeat refine sg ?_
     refine RVn_callC (c_read_Cursor_Take g [46] b k (by omega)) rfl ?_
     simp [encE_mk, Cur.take, h91, hnx]
     repeat refine sg ?_
     refine hK31 _ ?_
     clear hK31 K31
     refine AT_cond (b := false) (g := none) (by simp [h91, hnx]) (fun hb => ?_) (fun hb => ?_)
     ·
      cases hb
     ·
      clear hb
      refine AT_exit ?_
      try simp only [nrm, reduceIte, Nat.reduceEqDiff]
      refine hK28 _ ?_
      refine AT_seq_region fun K32 hK32 => ?_
      simp [encE_mk, h91, hnx]
      repeat refine sg ?_
      refine hK32 _ ?_
      clear hK32 K32
      refine AT_ret ?_
      simp [encE_mk, Tryd.f41]
      rw [exprC, hk, dotsC_at hrl, if_neg (by simp [hnx])]; simp
    ·
     have ha := Cur.adv_len hnx
     have hla := hrl e k.adv
     refine AT_seq_region fun K33 hK33 => ?_
     simp [encE_mk, Cur.take, h91, hnx]
     repeat refine sg ?_
     refine RVn_callC (c_read_Cursor_Take g [46] b k (by omega)) rfl ?_
     simp [encE_mk, Cur.take, h91, hnx]
     repeat refine sg ?_
     refine hK33 _ ?_
     clear hK33 K33
     refine AT_cond (b := true) (g := none) (by simp [h91, hnx]) (fun hb => ?_) (fun hb => ?_)
     ·
      clear hb
      refine AT_skip ?_
      try simp only [nrm, reduceIte, Nat.reduceEqDiff]
      refine hK30 _ ?_
      refine AT_block ?_
      refine AT_region_q fun K34 hK34 => ?_
      simp [encE_mk, h91, hnx]
      repeat refine sg ?_
      refine RVn_callC (c_read_Cursor_rest g q b q L hL hLn hnm hT hE e k.adv (by omega) (k.adv_suf.trans (hkc.trans hcL)) (by omega)) rfl ?_
      simp [encE_mk, h91, hnx]
      repeat refine sg ?_
      refine hK34 _ ?_
      clear hK34 K34
      try simp only [nrm, reduceIte, Nat.reduceEqDiff]
      refine hK29 _ (by first | rfl | simp) ((restC (typeC q) (exprC q) e k.adv).2.l.length) (by omega) ?_
      exact ⟨(restC (typeC q) (exprC q) e k.adv).2, (restC (typeC q) (exprC q) e k.adv).1, by rw [hk, dotsC_at hrl, if_pos hnx], (hrs _ _).trans (k.adv_suf.trans hkc), rfl, by simp⟩
     ·
      cases hb
  ·
   cases hb

end Go.Proofs.YtpjkdaechknogaaDoor
end

import Derived.Test.YtpjkdaechknogaaGreatDoorPt
import Derived.Test.YtpjkdaechknogaaGreatDoorPvPa
import Derived.Test.YtpjkdaechknogaaGreatDoorPvX
import Derived.Test.YtpjkdaechknogaaGreatDoorXRdC
import Derived.Test.YtpjkdaechknogaaGreatDoorXLxD
import Derived.Test.YtpjkdaechknogaaGreatDoorXNaB
section
/- Contracts: expressions, read. -/
set_option linter.all false
set_option maxHeartbeats 1000000
set_option maxRecDepth 10000
namespace Go.Proofs.YtpjkdaechknogaaGreatDoor
open Go Go.Pv
variable (g : Nat → Option (List AV)) (rnd : Bool)

theorem c_read_Cursor_args (q b n : Nat) (L : List Tk) (hE : ∀ c, c.l.length < n → c.l <:+ L → ValidC Tryz.prog (G0 g false) 19 [] b (encC 108 c) (.agg (encE (exprC q c).1)) (encC 108 (exprC q c).2)) (e : Str) (c : Cur) (hc : c.l.length < n) (hcL : c.l <:+ L) (hn : n ≤ 1000000) (hLn : L.length ≤ 1000000) : ValidC Tryz.prog (G0 g false) 45 [.str e] b (encC 108 c) (.slice ((argsC (exprC q) e c).1.map encE)) (encC 108 (argsC (exprC q) e c).2) := by
 have hcl := hcL.length_le
 have hll := (listC_suf (exprC_suf q) c).length_le
 refine validC_of [] Tryz.func45 rfl (by kernel_rfl) ?_
 refine AT_seq_region fun K1 hK1 => ?_
 simp [Tryz.f45]
 repeat refine sg ?_
 refine hK1 _ ?_
 clear hK1 K1
 refine AT_seq_region fun K2 hK2 => ?_
 simp
 repeat refine sg ?_
 refine hK2 _ ?_
 clear hK2 K2
 refine AT_seq_k fun K3 hK3 => ?_
 cases hnx : c.next e
 ·
  refine AT_seq_region fun K4 hK4 => ?_
  simp [hnx]
  repeat refine sg ?_
  refine RVn_callC (c_read_Cursor_Next g e b c (by omega)) rfl ?_
  simp [hnx]
  repeat refine sg ?_
  refine hK4 _ ?_
  clear hK4 K4
  refine AT_cond (b := true) (g := none) (by simp [hnx]) (fun hb => ?_) (fun hb => ?_)
  ·
   clear hb
   refine AT_region_q fun K5 hK5 => ?_
   simp [hnx]
   repeat refine sg ?_
   refine RVn_callC (c_read_list_api_Expr g (exprC q) b n L (exprC_suf q) hE c hc hcL hn) rfl ?_
   simp [hnx]
   repeat refine sg ?_
   refine hK5 _ ?_
   clear hK5 K5
   try simp only [nrm, reduceIte, Nat.reduceEqDiff]
   refine hK3 _ ?_
   refine AT_seq_region fun K6 hK6 => ?_
   simp [hnx]
   repeat refine sg ?_
   refine RVn_callC (c_read_Cursor_Must g e b _ (by first | (simp only [hnx]; omega) | omega)) rfl ?_
   simp [hnx]
   repeat refine sg ?_
   refine hK6 _ ?_
   clear hK6 K6
   refine AT_seq_region fun K7 hK7 => ?_
   simp [hnx]
   repeat refine sg ?_
   refine hK7 _ ?_
   clear hK7 K7
   refine AT_ret ?_
   simp [Tryz.f45]
   all_goals simp [argsC, hnx]
  ·
   cases hb
 ·
  refine AT_seq_region fun K8 hK8 => ?_
  simp [hnx]
  repeat refine sg ?_
  refine RVn_callC (c_read_Cursor_Next g e b c (by omega)) rfl ?_
  simp [hnx]
  repeat refine sg ?_
  refine hK8 _ ?_
  clear hK8 K8
  refine AT_cond (b := false) (g := none) (by simp [hnx]) (fun hb => ?_) (fun hb => ?_)
  ·
   cases hb
  ·
   clear hb
   refine AT_skip ?_
   try simp only [nrm, reduceIte, Nat.reduceEqDiff]
   refine hK3 _ ?_
   refine AT_seq_region fun K9 hK9 => ?_
   simp [hnx]
   repeat refine sg ?_
   refine RVn_callC (c_read_Cursor_Must g e b _ (by first | (simp only [hnx]; omega) | omega)) rfl ?_
   simp [hnx]
   repeat refine sg ?_
   refine hK9 _ ?_
   clear hK9 K9
   refine AT_seq_region fun K10 hK10 => ?_
   simp [hnx]
   repeat refine sg ?_
   refine hK10 _ ?_
   clear hK10 K10
   refine AT_ret ?_
   simp [Tryz.f45]
   all_goals simp [argsC, hnx]

theorem c_read_Cursor_rest (q b n : Nat) (L : List Tk) (hL : ∀ t ∈ L, t.2.1.length ≤ 1000000) (hLn : L.length < 1000000) (hnm : ∀ s : Str, s.length ≤ 1000000 → Valid Tryz.prog (G0 g false) 40 [.str s] (.bool (isName s))) (hT : ∀ c, c.l.length < n → c.l <:+ L → ValidC Tryz.prog (G0 g false) 32 [] b (encC 108 c) (.agg (encTy (typeC q c).1)) (encC 108 (typeC q c).2)) (hE : ∀ c, c.l.length < n → c.l <:+ L → ValidC Tryz.prog (G0 g false) 19 [] b (encC 108 c) (.agg (encE (exprC q c).1)) (encC 108 (exprC q c).2)) (e : Exp) (c : Cur) (hc : c.l.length < n) (hcL : c.l <:+ L) (hn : n ≤ 1000000) : ValidC Tryz.prog (G0 g false) 46 [.agg (encE e)] b (encC 108 c) (.agg (encE (restC (typeC q) (exprC q) e c).1)) (encC 108 (restC (typeC q) (exprC q) e c).2) := by
 have hcl := hcL.length_le
 have hnl := c.name_suf.length_le
 have hal := c.adv_suf.length_le
 have htl := (typeC_suf q c.adv).length_le
 have hgl := (targsC_suf (typeC_suf q) c.name).length_le
 have hml := ((targsC (typeC q) c.name).2.must_suf [40])
 have hml2 := hml.length_le
 have hcnt := argsC_count (exprC_suf q) [41] ((targsC (typeC q) c.name).2.must [40])
 refine validC_of [(48, 28)] Tryz.func46 rfl (by kernel_rfl) ?_
 refine AT_seq_region fun K1 hK1 => ?_
 simp [encK, Tryz.f46]
 repeat refine sg ?_
 refine hK1 _ ?_
 clear hK1 K1
 refine AT_seq_region fun K2 hK2 => ?_
 simp [encK]
 repeat refine sg ?_
 refine RVn_callC (c_read_Cursor_first g b c (by omega)) rfl ?_
 simp [encK]
 repeat refine sg ?_
 refine hK2 _ ?_
 clear hK2 K2
 refine AT_seq_k fun K3 hK3 => ?_
 cases h40 : c.next [40]
 ·
  refine AT_seq_region fun K4 hK4 => ?_
  simp [encK, Cur.take, h40]
  repeat refine sg ?_
  refine RVn_callC (c_read_Cursor_Take g [40] b c (by omega)) rfl ?_
  simp [encK, Cur.take, h40]
  repeat refine sg ?_
  refine hK4 _ ?_
  clear hK4 K4
  refine AT_cond (b := false) (g := none) (by simp [h40]) (fun hb => ?_) (fun hb => ?_)
  ·
   cases hb
  ·
   clear hb
   refine AT_skip ?_
   try simp only [nrm, reduceIte, Nat.reduceEqDiff]
   refine hK3 _ ?_
   refine AT_seq_region fun K5 hK5 => ?_
   simp [encK, h40]
   repeat refine sg ?_
   refine RVn_callC (c_read_Cursor_Name g b c (by omega) hnm (fun t ht => hL t (hcL.subset ht))) rfl ?_
   simp [encK, h40]
   repeat refine sg ?_
   refine hK5 _ ?_
   clear hK5 K5
   refine AT_seq_k fun K6 hK6 => ?_
   cases h91 : c.name.next [91]
   ·
    cases h40b : c.name.next [40]
    ·
     refine AT_seq_region fun K7 hK7 => ?_
     simp [encK, h40, h91, h40b]
     repeat refine sg ?_
     try (
      refine RVn_callC (c_read_Cursor_Next g [91] b c.name (by omega)) rfl ?_
      simp [encK, h40, h91, h40b]
      repeat refine sg ?_)
     try (
      refine RVn_callC (c_read_Cursor_Next g [40] b c.name (by omega)) rfl ?_
      simp [encK, h40, h91, h40b]
      repeat refine sg ?_)
     refine hK7 _ ?_
     clear hK7 K7
     refine AT_cond (b := true) (g := none) (by simp [h40, h91, h40b]) (fun hb => ?_) (fun hb => ?_)
     ·
      clear hb
      refine AT_seq_region fun K8 hK8 => ?_
      simp [encK, encE_mk, h40, h91, h40b]
      repeat refine sg ?_
      refine hK8 _ ?_
      clear hK8 K8
      refine AT_ret ?_
      simp [encK, Tryz.f46]
      all_goals first | (simp [restC, h40, encE_mk, encTy_def, ty0]; done) | (simp [restC, h40, h91, encE_mk, encTy_def, ty0]; done) | (simp [restC, h40, h91, h40b, encE_mk, encTy_def, ty0]; done)
     ·
      cases hb
    ·
     refine AT_seq_region fun K9 hK9 => ?_
     simp [encK, h40, h91, h40b]
     repeat refine sg ?_
     try (
      refine RVn_callC (c_read_Cursor_Next g [91] b c.name (by omega)) rfl ?_
      simp [encK, h40, h91, h40b]
      repeat refine sg ?_)
     try (
      refine RVn_callC (c_read_Cursor_Next g [40] b c.name (by omega)) rfl ?_
      simp [encK, h40, h91, h40b]
      repeat refine sg ?_)
     refine hK9 _ ?_
     clear hK9 K9
     refine AT_cond (b := false) (g := none) (by simp [h40, h91, h40b]) (fun hb => ?_) (fun hb => ?_)
     ·
      cases hb
     ·
      clear hb
      refine AT_skip ?_
      try simp only [nrm, reduceIte, Nat.reduceEqDiff]
      refine hK6 _ ?_
      refine AT_seq_region fun K10 hK10 => ?_
      simp [encK, encTy_mk, h40, h91, h40b]
      repeat refine sg ?_
      refine RVn_callC (c_read_Cursor_targs g q b n L hT c.name (fun h => by have := (Cur.name_next h).2; have := c.name.adv_suf.length_le; omega) (c.name_suf.trans hcL) hn (by omega)) rfl ?_
      simp [encK, encTy_mk, h40, h91, h40b]
      repeat refine sg ?_
      refine hK10 _ ?_
      clear hK10 K10
      refine AT_seq_region fun K11 hK11 => ?_
      simp [encK, h40, h91, h40b]
      repeat refine sg ?_
      refine RVn_callC (c_read_Cursor_Must g [40] b _ (by omega)) rfl ?_
      simp [encK, h40, h91, h40b]
      repeat refine sg ?_
      refine hK11 _ ?_
      clear hK11 K11
      refine AT_seq_any [0, 4, 7] [4, 7] (fun s => s = { n := 54, tm := [(0, .v (.gp b 0) none), (4, .lp 4 0), (7, .lp 7 0)], bx := [(4, [.int .i64 0, .str [], .str [], .slice [], .int .i64 0, .slice [], .slice [], .int .i64 0]), (7, [.int .i64 2, .str c.nm, .str [], .slice [], .int .i64 0, .slice ((targsC (typeC q) c.name).1.map encTy), .slice ((e :: (argsC (exprC q) [41] ((targsC (typeC q) c.name).2.must [40])).1).map encE), .int .i64 c.at_])], tb := [(7, 6, 48, 28)], sh := [(b, (encC 108 (argsC (exprC q) [41] ((targsC (typeC q) c.name).2.must [40])).2))], hint := [(48, 28)] }) Pt.mixed (fun K hK hQ => ?_) ?_
      ·
       refine ANY_take 2 (by rfl) hQ rfl rfl (by simp) (.inl ⟨_, rfl, rfl⟩) (by kernel_rfl) (by kernel_rfl) (by kernel_rfl) ?_
       refine ANY_ready [0, 3] (by kernel_rfl) (by simp) ?_
       refine AnyAll.cons rfl (fun Ka1 hKa1 => ?_) ?_
       ·
        simp [encK, encE_mk, encTy_def, h40, h91, h40b]
        repeat refine sg ?_
        refine hKa1 _ ?_
        clear hKa1 Ka1
        refine ANY_ready [1, 3] (by kernel_rfl) (by simp) ?_
        refine AnyAll.cons rfl (fun Ka2 hKa2 => ?_) ?_
        ·
         simp [encK, encE_mk, encTy_def, h40, h91, h40b]
         repeat refine sg ?_
         refine hKa2 _ ?_
         clear hKa2 Ka2
         refine ANY_ready [3] (by kernel_rfl) (by simp) ?_
         refine AnyAll.cons rfl (fun Ka3 hKa3 => ?_) ?_
         ·
          simp [encK, encE_mk, encTy_def, h40, h91, h40b]
          repeat refine sg ?_
          refine RVn_callC (c_read_Cursor_args g q b n L hE [41] _ (by omega) (hml.trans ((targsC_suf (typeC_suf q) c.name).trans (c.name_suf.trans hcL))) hn (by omega)) rfl ?_
          simp [encK, encE_mk, encTy_def, h40, h91, h40b]
          repeat refine sg ?_
          refine hKa3 _ ?_
          clear hKa3 Ka3
          refine ANY_ready [4] (by kernel_rfl) (by simp) ?_
          refine AnyAll.cons rfl (fun Ka4 hKa4 => ?_) ?_
          ·
           simp [encK, encE_mk, encTy_def, h40, h91, h40b]
           repeat refine sg ?_
           refine hKa4 _ ?_
           clear hKa4 Ka4
           refine ANY_take 5 (by rfl) hQ rfl rfl (by simp) (.inr ⟨_, _, _, _, _, _, rfl, rfl, Pt.foff_28_4, rfl⟩) (by kernel_rfl) (by kernel_rfl) (by kernel_rfl) ?_
           refine ANY_ready [6] (by kernel_rfl) (by simp) ?_
           refine AnyAll.cons rfl (fun Ka5 hKa5 => ?_) ?_
           ·
            simp [encK, encE_mk, encTy_def, h40, h91, h40b]
            repeat refine sg ?_
            refine hKa5 _ ?_
            clear hKa5 Ka5
            refine ANY_done (by kernel_rfl) ?_
            refine hK _ (by first | rfl | simp) ?_
            simp [encE_mk, encTy_def]
           exact AnyAll.nil
          exact AnyAll.nil
         exact AnyAll.nil
        refine AnyAll.cons rfl (fun Ka6 hKa6 => ?_) ?_
        ·
         simp [encK, encE_mk, encTy_def, h40, h91, h40b]
         repeat refine sg ?_
         refine RVn_callC (c_read_Cursor_args g q b n L hE [41] _ (by omega) (hml.trans ((targsC_suf (typeC_suf q) c.name).trans (c.name_suf.trans hcL))) hn (by omega)) rfl ?_
         simp [encK, encE_mk, encTy_def, h40, h91, h40b]
         repeat refine sg ?_
         refine hKa6 _ ?_
         clear hKa6 Ka6
         refine ANY_ready [1] (by kernel_rfl) (by simp) ?_
         refine AnyAll.cons rfl (fun Ka7 hKa7 => ?_) ?_
         ·
          simp [encK, encE_mk, encTy_def, h40, h91, h40b]
          repeat refine sg ?_
          refine hKa7 _ ?_
          clear hKa7 Ka7
          refine ANY_ready [4] (by kernel_rfl) (by simp) ?_
          refine AnyAll.cons rfl (fun Ka8 hKa8 => ?_) ?_
          ·
           simp [encK, encE_mk, encTy_def, h40, h91, h40b]
           repeat refine sg ?_
           refine hKa8 _ ?_
           clear hKa8 Ka8
           refine ANY_take 5 (by rfl) hQ rfl rfl (by simp) (.inr ⟨_, _, _, _, _, _, rfl, rfl, Pt.foff_28_4, rfl⟩) (by kernel_rfl) (by kernel_rfl) (by kernel_rfl) ?_
           refine ANY_ready [6] (by kernel_rfl) (by simp) ?_
           refine AnyAll.cons rfl (fun Ka9 hKa9 => ?_) ?_
           ·
            simp [encK, encE_mk, encTy_def, h40, h91, h40b]
            repeat refine sg ?_
            refine hKa9 _ ?_
            clear hKa9 Ka9
            refine ANY_done (by kernel_rfl) ?_
            refine hK _ (by first | rfl | simp) ?_
            simp [encE_mk, encTy_def]
           exact AnyAll.nil
          exact AnyAll.nil
         exact AnyAll.nil
        exact AnyAll.nil
       refine AnyAll.cons rfl (fun Ka10 hKa10 => ?_) ?_
       ·
        simp [encK, encE_mk, encTy_def, h40, h91, h40b]
        repeat refine sg ?_
        refine RVn_callC (c_read_Cursor_args g q b n L hE [41] _ (by omega) (hml.trans ((targsC_suf (typeC_suf q) c.name).trans (c.name_suf.trans hcL))) hn (by omega)) rfl ?_
        simp [encK, encE_mk, encTy_def, h40, h91, h40b]
        repeat refine sg ?_
        refine hKa10 _ ?_
        clear hKa10 Ka10
        refine ANY_ready [0] (by kernel_rfl) (by simp) ?_
        refine AnyAll.cons rfl (fun Ka11 hKa11 => ?_) ?_
        ·
         simp [encK, encE_mk, encTy_def, h40, h91, h40b]
         repeat refine sg ?_
         refine hKa11 _ ?_
         clear hKa11 Ka11
         refine ANY_ready [1] (by kernel_rfl) (by simp) ?_
         refine AnyAll.cons rfl (fun Ka12 hKa12 => ?_) ?_
         ·
          simp [encK, encE_mk, encTy_def, h40, h91, h40b]
          repeat refine sg ?_
          refine hKa12 _ ?_
          clear hKa12 Ka12
          refine ANY_ready [4] (by kernel_rfl) (by simp) ?_
          refine AnyAll.cons rfl (fun Ka13 hKa13 => ?_) ?_
          ·
           simp [encK, encE_mk, encTy_def, h40, h91, h40b]
           repeat refine sg ?_
           refine hKa13 _ ?_
           clear hKa13 Ka13
           refine ANY_take 5 (by rfl) hQ rfl rfl (by simp) (.inr ⟨_, _, _, _, _, _, rfl, rfl, Pt.foff_28_4, rfl⟩) (by kernel_rfl) (by kernel_rfl) (by kernel_rfl) ?_
           refine ANY_ready [6] (by kernel_rfl) (by simp) ?_
           refine AnyAll.cons rfl (fun Ka14 hKa14 => ?_) ?_
           ·
            simp [encK, encE_mk, encTy_def, h40, h91, h40b]
            repeat refine sg ?_
            refine hKa14 _ ?_
            clear hKa14 Ka14
            refine ANY_done (by kernel_rfl) ?_
            refine hK _ (by first | rfl | simp) ?_
            simp [encE_mk, encTy_def]
           exact AnyAll.nil
          exact AnyAll.nil
         exact AnyAll.nil
        exact AnyAll.nil
       exact AnyAll.nil
      rintro _ rfl
      refine AT_seq_region fun K12 hK12 => ?_
      simp [encK, h40, h91, h40b]
      repeat refine sg ?_
      refine hK12 _ ?_
      clear hK12 K12
      refine AT_ret ?_
      simp [encK, Tryz.f46]
      all_goals first | (simp [restC, h40, encE_mk, encTy_def, ty0]; done) | (simp [restC, h40, h91, encE_mk, encTy_def, ty0]; done) | (simp [restC, h40, h91, h40b, encE_mk, encTy_def, ty0]; done)
   ·
    refine AT_seq_region fun K13 hK13 => ?_
    simp [encK, h40, h91]
    repeat refine sg ?_
    try (
     refine RVn_callC (c_read_Cursor_Next g [91] b c.name (by omega)) rfl ?_
     simp [encK, h40, h91]
     repeat refine sg ?_)
    try (
     refine RVn_callC (c_read_Cursor_Next g [40] b c.name (by omega)) rfl ?_
     simp [encK, h40, h91]
     repeat refine sg ?_)
    refine hK13 _ ?_
    clear hK13 K13
    refine AT_cond (b := false) (g := none) (by simp [h40, h91]) (fun hb => ?_) (fun hb => ?_)
    ·
     cases hb
    ·
     clear hb
     refine AT_skip ?_
     try simp only [nrm, reduceIte, Nat.reduceEqDiff]
     refine hK6 _ ?_
     refine AT_seq_region fun K14 hK14 => ?_
     simp [encK, encTy_mk, h40, h91]
     repeat refine sg ?_
     refine RVn_callC (c_read_Cursor_targs g q b n L hT c.name (fun h => by have := (Cur.name_next h).2; have := c.name.adv_suf.length_le; omega) (c.name_suf.trans hcL) hn (by omega)) rfl ?_
     simp [encK, encTy_mk, h40, h91]
     repeat refine sg ?_
     refine hK14 _ ?_
     clear hK14 K14
     refine AT_seq_region fun K15 hK15 => ?_
     simp [encK, h40, h91]
     repeat refine sg ?_
     refine RVn_callC (c_read_Cursor_Must g [40] b _ (by omega)) rfl ?_
     simp [encK, h40, h91]
     repeat refine sg ?_
     refine hK15 _ ?_
     clear hK15 K15
     refine AT_seq_any [0, 4, 7] [4, 7] (fun s => s = { n := 54, tm := [(0, .v (.gp b 0) none), (4, .lp 4 0), (7, .lp 7 0)], bx := [(4, [.int .i64 0, .str [], .str [], .slice [], .int .i64 0, .slice [], .slice [], .int .i64 0]), (7, [.int .i64 2, .str c.nm, .str [], .slice [], .int .i64 0, .slice ((targsC (typeC q) c.name).1.map encTy), .slice ((e :: (argsC (exprC q) [41] ((targsC (typeC q) c.name).2.must [40])).1).map encE), .int .i64 c.at_])], tb := [(7, 6, 48, 28)], sh := [(b, (encC 108 (argsC (exprC q) [41] ((targsC (typeC q) c.name).2.must [40])).2))], hint := [(48, 28)] }) Pt.mixed (fun K hK hQ => ?_) ?_
     ·
      refine ANY_take 2 (by rfl) hQ rfl rfl (by simp) (.inl ⟨_, rfl, rfl⟩) (by kernel_rfl) (by kernel_rfl) (by kernel_rfl) ?_
      refine ANY_ready [0, 3] (by kernel_rfl) (by simp) ?_
      refine AnyAll.cons rfl (fun Ka1 hKa1 => ?_) ?_
      ·
       simp [encK, encE_mk, encTy_def, h40, h91]
       repeat refine sg ?_
       refine hKa1 _ ?_
       clear hKa1 Ka1
       refine ANY_ready [1, 3] (by kernel_rfl) (by simp) ?_
       refine AnyAll.cons rfl (fun Ka2 hKa2 => ?_) ?_
       ·
        simp [encK, encE_mk, encTy_def, h40, h91]
        repeat refine sg ?_
        refine hKa2 _ ?_
        clear hKa2 Ka2
        refine ANY_ready [3] (by kernel_rfl) (by simp) ?_
        refine AnyAll.cons rfl (fun Ka3 hKa3 => ?_) ?_
        ·
         simp [encK, encE_mk, encTy_def, h40, h91]
         repeat refine sg ?_
         refine RVn_callC (c_read_Cursor_args g q b n L hE [41] _ (by omega) (hml.trans ((targsC_suf (typeC_suf q) c.name).trans (c.name_suf.trans hcL))) hn (by omega)) rfl ?_
         simp [encK, encE_mk, encTy_def, h40, h91]
         repeat refine sg ?_
         refine hKa3 _ ?_
         clear hKa3 Ka3
         refine ANY_ready [4] (by kernel_rfl) (by simp) ?_
         refine AnyAll.cons rfl (fun Ka4 hKa4 => ?_) ?_
         ·
          simp [encK, encE_mk, encTy_def, h40, h91]
          repeat refine sg ?_
          refine hKa4 _ ?_
          clear hKa4 Ka4
          refine ANY_take 5 (by rfl) hQ rfl rfl (by simp) (.inr ⟨_, _, _, _, _, _, rfl, rfl, Pt.foff_28_4, rfl⟩) (by kernel_rfl) (by kernel_rfl) (by kernel_rfl) ?_
          refine ANY_ready [6] (by kernel_rfl) (by simp) ?_
          refine AnyAll.cons rfl (fun Ka5 hKa5 => ?_) ?_
          ·
           simp [encK, encE_mk, encTy_def, h40, h91]
           repeat refine sg ?_
           refine hKa5 _ ?_
           clear hKa5 Ka5
           refine ANY_done (by kernel_rfl) ?_
           refine hK _ (by first | rfl | simp) ?_
           simp [encE_mk, encTy_def]
          exact AnyAll.nil
         exact AnyAll.nil
        exact AnyAll.nil
       refine AnyAll.cons rfl (fun Ka6 hKa6 => ?_) ?_
       ·
        simp [encK, encE_mk, encTy_def, h40, h91]
        repeat refine sg ?_
        refine RVn_callC (c_read_Cursor_args g q b n L hE [41] _ (by omega) (hml.trans ((targsC_suf (typeC_suf q) c.name).trans (c.name_suf.trans hcL))) hn (by omega)) rfl ?_
        simp [encK, encE_mk, encTy_def, h40, h91]
        repeat refine sg ?_
        refine hKa6 _ ?_
        clear hKa6 Ka6
        refine ANY_ready [1] (by kernel_rfl) (by simp) ?_
        refine AnyAll.cons rfl (fun Ka7 hKa7 => ?_) ?_
        ·
         simp [encK, encE_mk, encTy_def, h40, h91]
         repeat refine sg ?_
         refine hKa7 _ ?_
         clear hKa7 Ka7
         refine ANY_ready [4] (by kernel_rfl) (by simp) ?_
         refine AnyAll.cons rfl (fun Ka8 hKa8 => ?_) ?_
         ·
          simp [encK, encE_mk, encTy_def, h40, h91]
          repeat refine sg ?_
          refine hKa8 _ ?_
          clear hKa8 Ka8
          refine ANY_take 5 (by rfl) hQ rfl rfl (by simp) (.inr ⟨_, _, _, _, _, _, rfl, rfl, Pt.foff_28_4, rfl⟩) (by kernel_rfl) (by kernel_rfl) (by kernel_rfl) ?_
          refine ANY_ready [6] (by kernel_rfl) (by simp) ?_
          refine AnyAll.cons rfl (fun Ka9 hKa9 => ?_) ?_
          ·
           simp [encK, encE_mk, encTy_def, h40, h91]
           repeat refine sg ?_
           refine hKa9 _ ?_
           clear hKa9 Ka9
           refine ANY_done (by kernel_rfl) ?_
           refine hK _ (by first | rfl | simp) ?_
           simp [encE_mk, encTy_def]
          exact AnyAll.nil
         exact AnyAll.nil
        exact AnyAll.nil
       exact AnyAll.nil
      refine AnyAll.cons rfl (fun Ka10 hKa10 => ?_) ?_
      ·
       simp [encK, encE_mk, encTy_def, h40, h91]
       repeat refine sg ?_
       refine RVn_callC (c_read_Cursor_args g q b n L hE [41] _ (by omega) (hml.trans ((targsC_suf (typeC_suf q) c.name).trans (c.name_suf.trans hcL))) hn (by omega)) rfl ?_
       simp [encK, encE_mk, encTy_def, h40, h91]
       repeat refine sg ?_
       refine hKa10 _ ?_
       clear hKa10 Ka10
       refine ANY_ready [0] (by kernel_rfl) (by simp) ?_
       refine AnyAll.cons rfl (fun Ka11 hKa11 => ?_) ?_
       ·
        simp [encK, encE_mk, encTy_def, h40, h91]
        repeat refine sg ?_
        refine hKa11 _ ?_
        clear hKa11 Ka11
        refine ANY_ready [1] (by kernel_rfl) (by simp) ?_
        refine AnyAll.cons rfl (fun Ka12 hKa12 => ?_) ?_
        ·
         simp [encK, encE_mk, encTy_def, h40, h91]
         repeat refine sg ?_
         refine hKa12 _ ?_
         clear hKa12 Ka12
         refine ANY_ready [4] (by kernel_rfl) (by simp) ?_
         refine AnyAll.cons rfl (fun Ka13 hKa13 => ?_) ?_
         ·
          simp [encK, encE_mk, encTy_def, h40, h91]
          repeat refine sg ?_
          refine hKa13 _ ?_
          clear hKa13 Ka13
          refine ANY_take 5 (by rfl) hQ rfl rfl (by simp) (.inr ⟨_, _, _, _, _, _, rfl, rfl, Pt.foff_28_4, rfl⟩) (by kernel_rfl) (by kernel_rfl) (by kernel_rfl) ?_
          refine ANY_ready [6] (by kernel_rfl) (by simp) ?_
          refine AnyAll.cons rfl (fun Ka14 hKa14 => ?_) ?_
          ·
           simp [encK, encE_mk, encTy_def, h40, h91]
           repeat refine sg ?_
           refine hKa14 _ ?_
           clear hKa14 Ka14
           refine ANY_done (by kernel_rfl) ?_
           refine hK _ (by first | rfl | simp) ?_
           simp [encE_mk, encTy_def]
          exact AnyAll.nil
         exact AnyAll.nil
        exact AnyAll.nil
       exact AnyAll.nil
      exact AnyAll.nil
     rintro _ rfl
     refine AT_seq_region fun K16 hK16 => ?_
     simp [encK, h40, h91]
     repeat refine sg ?_
     refine hK16 _ ?_
     clear hK16 K16
     refine AT_ret ?_
     simp [encK, Tryz.f46]
     all_goals first | (simp [restC, h40, encE_mk, encTy_def, ty0]; done) | (simp [restC, h40, h91, encE_mk, encTy_def, ty0]; done) | (simp [restC, h40, h91, h40b, encE_mk, encTy_def, ty0]; done)
 ·
  refine AT_seq_region fun K17 hK17 => ?_
  simp [encK, Cur.take, h40]
  repeat refine sg ?_
  refine RVn_callC (c_read_Cursor_Take g [40] b c (by omega)) rfl ?_
  simp [encK, Cur.take, h40]
  repeat refine sg ?_
  refine hK17 _ ?_
  clear hK17 K17
  refine AT_cond (b := true) (g := none) (by simp [h40]) (fun hb => ?_) (fun hb => ?_)
  ·
   clear hb
   refine AT_seq_any [0, 3, 4] [3, 4] (fun s => s = { n := 54, tm := [(0, .v (.gp b 0) none), (3, .lp 3 0), (4, .lp 4 0)], bx := [(3, encE (.mk 5 [] (typeC q c.adv).1 [] [e] c.first.2.2)), (4, [.int .i64 0, .str [], .str [], .slice [], .int .i64 0, .slice [], .slice [], .int .i64 0])], tb := [], sh := [(b, (encC 108 (typeC q c.adv).2))], hint := [(48, 28)] }) Pt.mixed (fun K hK hQ => ?_) ?_
   ·
    refine ANY_take 2 (by rfl) hQ rfl rfl (by simp) (.inl ⟨_, rfl, rfl⟩) (by kernel_rfl) (by kernel_rfl) (by kernel_rfl) ?_
    refine ANY_take 4 (by rfl) hQ rfl rfl (by simp) (.inl ⟨_, rfl, rfl⟩) (by kernel_rfl) (by kernel_rfl) (by kernel_rfl) ?_
    refine ANY_ready [0, 3] (by kernel_rfl) (by simp) ?_
    refine AnyAll.cons rfl (fun Ka1 hKa1 => ?_) ?_
    ·
     simp [encK, encE_mk, encTy_def, h40]
     repeat refine sg ?_
     refine hKa1 _ ?_
     clear hKa1 Ka1
     refine ANY_ready [1, 3] (by kernel_rfl) (by simp) ?_
     refine AnyAll.cons rfl (fun Ka2 hKa2 => ?_) ?_
     ·
      simp [encK, encE_mk, encTy_def, h40]
      repeat refine sg ?_
      refine hKa2 _ ?_
      clear hKa2 Ka2
      refine ANY_ready [3] (by kernel_rfl) (by simp) ?_
      refine AnyAll.cons rfl (fun Ka3 hKa3 => ?_) ?_
      ·
       simp [encK, encE_mk, encTy_def, h40]
       repeat refine sg ?_
       refine RVn_callC (hT c.adv (by omega) (c.adv_suf.trans hcL)) rfl ?_
       simp [encK, encE_mk, encTy_def, h40]
       repeat refine sg ?_
       refine hKa3 _ ?_
       clear hKa3 Ka3
       refine ANY_ready [5] (by kernel_rfl) (by simp) ?_
       refine AnyAll.cons rfl (fun Ka4 hKa4 => ?_) ?_
       ·
        simp [encK, encE_mk, encTy_def, h40]
        repeat refine sg ?_
        refine hKa4 _ ?_
        clear hKa4 Ka4
        refine ANY_ready [6] (by kernel_rfl) (by simp) ?_
        refine AnyAll.cons rfl (fun Ka5 hKa5 => ?_) ?_
        ·
         simp [encK, encE_mk, encTy_def, h40]
         repeat refine sg ?_
         refine hKa5 _ ?_
         clear hKa5 Ka5
         refine ANY_done (by kernel_rfl) ?_
         refine hK _ (by first | rfl | simp) ?_
         simp [encE_mk, encTy_def]
        exact AnyAll.nil
       exact AnyAll.nil
      exact AnyAll.nil
     refine AnyAll.cons rfl (fun Ka6 hKa6 => ?_) ?_
     ·
      simp [encK, encE_mk, encTy_def, h40]
      repeat refine sg ?_
      refine RVn_callC (hT c.adv (by omega) (c.adv_suf.trans hcL)) rfl ?_
      simp [encK, encE_mk, encTy_def, h40]
      repeat refine sg ?_
      refine hKa6 _ ?_
      clear hKa6 Ka6
      refine ANY_ready [1] (by kernel_rfl) (by simp) ?_
      refine AnyAll.cons rfl (fun Ka7 hKa7 => ?_) ?_
      ·
       simp [encK, encE_mk, encTy_def, h40]
       repeat refine sg ?_
       refine hKa7 _ ?_
       clear hKa7 Ka7
       refine ANY_ready [5] (by kernel_rfl) (by simp) ?_
       refine AnyAll.cons rfl (fun Ka8 hKa8 => ?_) ?_
       ·
        simp [encK, encE_mk, encTy_def, h40]
        repeat refine sg ?_
        refine hKa8 _ ?_
        clear hKa8 Ka8
        refine ANY_ready [6] (by kernel_rfl) (by simp) ?_
        refine AnyAll.cons rfl (fun Ka9 hKa9 => ?_) ?_
        ·
         simp [encK, encE_mk, encTy_def, h40]
         repeat refine sg ?_
         refine hKa9 _ ?_
         clear hKa9 Ka9
         refine ANY_done (by kernel_rfl) ?_
         refine hK _ (by first | rfl | simp) ?_
         simp [encE_mk, encTy_def]
        exact AnyAll.nil
       exact AnyAll.nil
      exact AnyAll.nil
     exact AnyAll.nil
    refine AnyAll.cons rfl (fun Ka10 hKa10 => ?_) ?_
    ·
     simp [encK, encE_mk, encTy_def, h40]
     repeat refine sg ?_
     refine RVn_callC (hT c.adv (by omega) (c.adv_suf.trans hcL)) rfl ?_
     simp [encK, encE_mk, encTy_def, h40]
     repeat refine sg ?_
     refine hKa10 _ ?_
     clear hKa10 Ka10
     refine ANY_ready [0] (by kernel_rfl) (by simp) ?_
     refine AnyAll.cons rfl (fun Ka11 hKa11 => ?_) ?_
     ·
      simp [encK, encE_mk, encTy_def, h40]
      repeat refine sg ?_
      refine hKa11 _ ?_
      clear hKa11 Ka11
      refine ANY_ready [1] (by kernel_rfl) (by simp) ?_
      refine AnyAll.cons rfl (fun Ka12 hKa12 => ?_) ?_
      ·
       simp [encK, encE_mk, encTy_def, h40]
       repeat refine sg ?_
       refine hKa12 _ ?_
       clear hKa12 Ka12
       refine ANY_ready [5] (by kernel_rfl) (by simp) ?_
       refine AnyAll.cons rfl (fun Ka13 hKa13 => ?_) ?_
       ·
        simp [encK, encE_mk, encTy_def, h40]
        repeat refine sg ?_
        refine hKa13 _ ?_
        clear hKa13 Ka13
        refine ANY_ready [6] (by kernel_rfl) (by simp) ?_
        refine AnyAll.cons rfl (fun Ka14 hKa14 => ?_) ?_
        ·
         simp [encK, encE_mk, encTy_def, h40]
         repeat refine sg ?_
         refine hKa14 _ ?_
         clear hKa14 Ka14
         refine ANY_done (by kernel_rfl) ?_
         refine hK _ (by first | rfl | simp) ?_
         simp [encE_mk, encTy_def]
        exact AnyAll.nil
       exact AnyAll.nil
      exact AnyAll.nil
     exact AnyAll.nil
    exact AnyAll.nil
   rintro _ rfl
   refine AT_seq_region fun K18 hK18 => ?_
   simp [encK, h40]
   repeat refine sg ?_
   refine RVn_callC (c_read_Cursor_Must g [41] b _ (by omega)) rfl ?_
   simp [encK, h40]
   repeat refine sg ?_
   refine hK18 _ ?_
   clear hK18 K18
   refine AT_seq_region fun K19 hK19 => ?_
   simp [encK, h40]
   repeat refine sg ?_
   refine hK19 _ ?_
   clear hK19 K19
   refine AT_ret ?_
   simp [encK, Tryz.f46]
   all_goals first | (simp [restC, h40, encE_mk, encTy_def, ty0]; done) | (simp [restC, h40, h91, encE_mk, encTy_def, ty0]; done) | (simp [restC, h40, h91, h40b, encE_mk, encTy_def, ty0]; done)
  ·
   cases hb

theorem c_read_Cursor_Expr (b : Nat) (L : List Tk) (hL : ∀ t ∈ L, t.2.1.length ≤ 1000000) (hLn : L.length < 1000000) (hnm : ∀ s : Str, s.length ≤ 1000000 → Valid Tryz.prog (G0 g false) 40 [.str s] (.bool (isName s))) : ∀ (n : Nat) (c : Cur), c.l.length < n → n ≤ 1000000 → c.l <:+ L → ValidC Tryz.prog (G0 g false) 19 [] b (encC 108 c) (.agg (encE (exprC n c).1)) (encC 108 (exprC n c).2) := by
 intro n
 induction n with
 | zero => intro c hc; omega
 | succ q ih =>
 intro c hc hq hcL
 have hcl := hcL.length_le
 have hnl := c.name_suf.length_le
 have hT := fun c h h2 => c_read_Cursor_Type g b L hL hLn hnm q c h (by omega) h2
 have hE := fun c h h2 => ih c h (by omega) h2
 have hbs := baseC_suf (typeC_suf q) (exprC_suf q) c
 have hbl := hbs.length_le
 have hgs := (targsC_suf (typeC_suf q) c.name)
 have hgl := hgs.length_le
 have hms := (targsC (typeC q) c.name).2.must_suf [123]
 have hml := hms.length_le
 have hrs := restC_suf (typeC_suf q) (exprC_suf q)
 have hrl := fun e c => (hrs e c).length_le
 refine validC_of [] Tryz.func19 rfl (by kernel_rfl) ?_
 refine AT_seq_region fun K1 hK1 => ?_
 simp [encE_mk, Tryz.f19]
 repeat refine sg ?_
 refine hK1 _ ?_
 clear hK1 K1
 refine AT_seq_region fun K2 hK2 => ?_
 simp [encE_mk]
 repeat refine sg ?_
 refine RVn_callC (c_read_Cursor_Name g b c (by omega) hnm (fun t ht => hL t (hcL.subset ht))) rfl ?_
 simp [encE_mk]
 repeat refine sg ?_
 refine hK2 _ ?_
 clear hK2 K2
 refine AT_seq_region fun K3 hK3 => ?_
 simp [encE_mk]
 repeat refine sg ?_
 refine hK3 _ ?_
 clear hK3 K3
 refine AT_seq_k fun K4 hK4 => ?_
 cases h91 : c.name.next [91]
 ·
  cases h123 : c.name.next [123]
  ·
   refine AT_seq_region fun K5 hK5 => ?_
   simp [encE_mk, h91, h123]
   repeat refine sg ?_
   try (
    refine RVn_callC (c_read_Cursor_Next g [91] b c.name (by omega)) rfl ?_
    simp [encE_mk, h91, h123]
    repeat refine sg ?_)
   try (
    refine RVn_callC (c_read_Cursor_Next g [123] b c.name (by omega)) rfl ?_
    simp [encE_mk, h91, h123]
    repeat refine sg ?_)
   refine hK5 _ ?_
   clear hK5 K5
   refine AT_cond (b := false) (g := none) (by simp [h91, h123]) (fun hb => ?_) (fun hb => ?_)
   ·
    cases hb
   ·
    clear hb
    refine AT_skip ?_
    try simp only [nrm, reduceIte, Nat.reduceEqDiff]
    refine hK4 _ ?_
    refine AT_seq_k fun K6 hK6 => ?_
    refine AT_block ?_
    refine AT_loop_q [0,2,5] [2,5] (fun j s => ∃ k e, dotsC (restC (typeC q) (exprC q)) (baseC (typeC q) (exprC q) c).2.l.length (baseC (typeC q) (exprC q) c).1 (baseC (typeC q) (exprC q) c).2 = dotsC (restC (typeC q) (exprC q)) k.l.length e k ∧ k.l <:+ c.l ∧ j = k.l.length ∧ s = { n := 38, tm := [(0, .v (.gp b 0) none), (2, .lp 2 0), (5, .lp 5 0)], bx := [(2, [.int .i64 0, .str [], .str [], .slice [], .int .i64 0, .slice [], .slice [], .int .i64 0]), (5, encE e)], tb := [], sh := [(b, (encC 108 k))], hint := [] }) ((baseC (typeC q) (exprC q) c).2.l.length) (by first | rfl | simp) ?_ ?_
    ·
     refine ⟨(baseC (typeC q) (exprC q) c).2, (baseC (typeC q) (exprC q) c).1, rfl, hbs, rfl, ?_⟩
     first
     | (simp [baseC, h91, h123, encE_mk, ty0]; done)
     | (simp [baseC, h91, encE_mk]; done)
     | (simp [baseC, h123, encE_mk]; done)
    ·
     rintro j s ⟨k, e, hk, hkc, rfl, rfl⟩ K7 hK7
     refine AT_seq_k fun K8 hK8 => ?_
     have hkl := hkc.length_le
     cases hnx : k.next [46]
     ·
      refine AT_seq_region fun K9 hK9 => ?_
      simp [encE_mk, Cur.take, h91, h123, hnx]
      repeat refine sg ?_
      refine RVn_callC (c_read_Cursor_Take g [46] b k (by omega)) rfl ?_
      simp [encE_mk, Cur.take, h91, h123, hnx]
      repeat refine sg ?_
      refine hK9 _ ?_
      clear hK9 K9
      refine AT_cond (b := false) (g := none) (by simp [h91, h123, hnx]) (fun hb => ?_) (fun hb => ?_)
      ·
       cases hb
      ·
       clear hb
       refine AT_exit ?_
       try simp only [nrm, reduceIte, Nat.reduceEqDiff]
       refine hK6 _ ?_
       refine AT_seq_region fun K10 hK10 => ?_
       simp [encE_mk, h91, h123, hnx]
       repeat refine sg ?_
       refine hK10 _ ?_
       clear hK10 K10
       refine AT_ret ?_
       simp [encE_mk, Tryz.f19]
       rw [exprC, hk, dotsC_at hrl, if_neg (by simp [hnx])]; simp
     ·
      have ha := Cur.adv_len hnx
      have hla := hrl e k.adv
      refine AT_seq_region fun K11 hK11 => ?_
      simp [encE_mk, Cur.take, h91, h123, hnx]
      repeat refine sg ?_
      refine RVn_callC (c_read_Cursor_Take g [46] b k (by omega)) rfl ?_
      simp [encE_mk, Cur.take, h91, h123, hnx]
      repeat refine sg ?_
      refine hK11 _ ?_
      clear hK11 K11
      refine AT_cond (b := true) (g := none) (by simp [h91, h123, hnx]) (fun hb => ?_) (fun hb => ?_)
      ·
       clear hb
       refine AT_skip ?_
       try simp only [nrm, reduceIte, Nat.reduceEqDiff]
       refine hK8 _ ?_
       refine AT_block ?_
       refine AT_region_q fun K12 hK12 => ?_
       simp [encE_mk, h91, h123, hnx]
       repeat refine sg ?_
       refine RVn_callC (c_read_Cursor_rest g q b q L hL hLn hnm hT hE e k.adv (by omega) (k.adv_suf.trans (hkc.trans hcL)) (by omega)) rfl ?_
       simp [encE_mk, h91, h123, hnx]
       repeat refine sg ?_
       refine hK12 _ ?_
       clear hK12 K12
       try simp only [nrm, reduceIte, Nat.reduceEqDiff]
       refine hK7 _ (by first | rfl | simp) ((restC (typeC q) (exprC q) e k.adv).2.l.length) (by omega) ?_
       exact ⟨(restC (typeC q) (exprC q) e k.adv).2, (restC (typeC q) (exprC q) e k.adv).1, by rw [hk, dotsC_at hrl, if_pos hnx], (hrs _ _).trans (k.adv_suf.trans hkc), rfl, by simp⟩
      ·
       cases hb
  ·
   have hnn := (Cur.name_next h123).2
   refine AT_seq_region fun K13 hK13 => ?_
   simp [encE_mk, h91, h123]
   repeat refine sg ?_
   try (
    refine RVn_callC (c_read_Cursor_Next g [91] b c.name (by omega)) rfl ?_
    simp [encE_mk, h91, h123]
    repeat refine sg ?_)
   try (
    refine RVn_callC (c_read_Cursor_Next g [123] b c.name (by omega)) rfl ?_
    simp [encE_mk, h91, h123]
    repeat refine sg ?_)
   refine hK13 _ ?_
   clear hK13 K13
   refine AT_cond (b := true) (g := none) (by simp [h91, h123]) (fun hb => ?_) (fun hb => ?_)
   ·
    clear hb
    refine AT_seq_region fun K14 hK14 => ?_
    simp [encE_mk, encTy_mk, h91, h123]
    repeat refine sg ?_
    refine RVn_callC (c_read_Cursor_targs g q b q L hT c.name (fun h => by have := (Cur.name_next h).2; have := c.name.adv_suf.length_le; omega) (c.name_suf.trans hcL) (by omega) (by omega)) rfl ?_
    simp [encE_mk, encTy_mk, h91, h123]
    repeat refine sg ?_
    refine hK14 _ ?_
    clear hK14 K14
    refine AT_seq_region fun K15 hK15 => ?_
    simp [encE_mk, h91, h123]
    repeat refine sg ?_
    refine RVn_callC (c_read_Cursor_Must g [123] b _ (by omega)) rfl ?_
    simp [encE_mk, h91, h123]
    repeat refine sg ?_
    refine hK15 _ ?_
    clear hK15 K15
    refine AT_region_q fun K16 hK16 => ?_
    simp [encE_mk, h91, h123]
    repeat refine sg ?_
    refine RVn_callC (c_read_Cursor_args g q b q L hE [125] _ (by omega) (hms.trans (hgs.trans (c.name_suf.trans hcL))) (by omega) (by omega)) rfl ?_
    simp [encE_mk, h91, h123]
    repeat refine sg ?_
    refine hK16 _ ?_
    clear hK16 K16
    try simp only [nrm, reduceIte, Nat.reduceEqDiff]
    refine hK4 _ ?_
    refine AT_seq_k fun K17 hK17 => ?_
    refine AT_block ?_
    refine AT_loop_q [0,2,5] [2,5] (fun j s => ∃ k e, dotsC (restC (typeC q) (exprC q)) (baseC (typeC q) (exprC q) c).2.l.length (baseC (typeC q) (exprC q) c).1 (baseC (typeC q) (exprC q) c).2 = dotsC (restC (typeC q) (exprC q)) k.l.length e k ∧ k.l <:+ c.l ∧ j = k.l.length ∧ s = { n := 38, tm := [(0, .v (.gp b 0) none), (2, .lp 2 0), (5, .lp 5 0)], bx := [(2, [.int .i64 0, .str [], .str [], .slice [], .int .i64 0, .slice [], .slice [], .int .i64 0]), (5, encE e)], tb := [], sh := [(b, (encC 108 k))], hint := [] }) ((baseC (typeC q) (exprC q) c).2.l.length) (by first | rfl | simp) ?_ ?_
    ·
     refine ⟨(baseC (typeC q) (exprC q) c).2, (baseC (typeC q) (exprC q) c).1, rfl, hbs, rfl, ?_⟩
     first
     | (simp [baseC, h91, h123, encE_mk, ty0]; done)
     | (simp [baseC, h91, encE_mk]; done)
     | (simp [baseC, h123, encE_mk]; done)
    ·
     rintro j s ⟨k, e, hk, hkc, rfl, rfl⟩ K18 hK18
     refine AT_seq_k fun K19 hK19 => ?_
     have hkl := hkc.length_le
     cases hnx : k.next [46]
     ·
      refine AT_seq_region fun K20 hK20 => ?_
      simp [encE_mk, Cur.take, h91, h123, hnx]
      repeat refine sg ?_
      refine RVn_callC (c_read_Cursor_Take g [46] b k (by omega)) rfl ?_
      simp [encE_mk, Cur.take, h91, h123, hnx]
      repeat refine sg ?_
      refine hK20 _ ?_
      clear hK20 K20
      refine AT_cond (b := false) (g := none) (by simp [h91, h123, hnx]) (fun hb => ?_) (fun hb => ?_)
      ·
       cases hb
      ·
       clear hb
       refine AT_exit ?_
       try simp only [nrm, reduceIte, Nat.reduceEqDiff]
       refine hK17 _ ?_
       refine AT_seq_region fun K21 hK21 => ?_
       simp [encE_mk, h91, h123, hnx]
       repeat refine sg ?_
       refine hK21 _ ?_
       clear hK21 K21
       refine AT_ret ?_
       simp [encE_mk, Tryz.f19]
       rw [exprC, hk, dotsC_at hrl, if_neg (by simp [hnx])]; simp
     ·
      have ha := Cur.adv_len hnx
      have hla := hrl e k.adv
      refine AT_seq_region fun K22 hK22 => ?_
      simp [encE_mk, Cur.take, h91, h123, hnx]
      repeat refine sg ?_
      refine RVn_callC (c_read_Cursor_Take g [46] b k (by omega)) rfl ?_
      simp [encE_mk, Cur.take, h91, h123, hnx]
      repeat refine sg ?_
      refine hK22 _ ?_
      clear hK22 K22
      refine AT_cond (b := true) (g := none) (by simp [h91, h123, hnx]) (fun hb => ?_) (fun hb => ?_)
      ·
       clear hb
       refine AT_skip ?_
       try simp only [nrm, reduceIte, Nat.reduceEqDiff]
       refine hK19 _ ?_
       refine AT_block ?_
       refine AT_region_q fun K23 hK23 => ?_
       simp [encE_mk, h91, h123, hnx]
       repeat refine sg ?_
       refine RVn_callC (c_read_Cursor_rest g q b q L hL hLn hnm hT hE e k.adv (by omega) (k.adv_suf.trans (hkc.trans hcL)) (by omega)) rfl ?_
       simp [encE_mk, h91, h123, hnx]
       repeat refine sg ?_
       refine hK23 _ ?_
       clear hK23 K23
       try simp only [nrm, reduceIte, Nat.reduceEqDiff]
       refine hK18 _ (by first | rfl | simp) ((restC (typeC q) (exprC q) e k.adv).2.l.length) (by omega) ?_
       exact ⟨(restC (typeC q) (exprC q) e k.adv).2, (restC (typeC q) (exprC q) e k.adv).1, by rw [hk, dotsC_at hrl, if_pos hnx], (hrs _ _).trans (k.adv_suf.trans hkc), rfl, by simp⟩
      ·
       cases hb
   ·
    cases hb
 ·
  have hnn := (Cur.name_next h91).2
  refine AT_seq_region fun K24 hK24 => ?_
  simp [encE_mk, h91]
  repeat refine sg ?_
  try (
   refine RVn_callC (c_read_Cursor_Next g [91] b c.name (by omega)) rfl ?_
   simp [encE_mk, h91]
   repeat refine sg ?_)
  try (
   refine RVn_callC (c_read_Cursor_Next g [123] b c.name (by omega)) rfl ?_
   simp [encE_mk, h91]
   repeat refine sg ?_)
  refine hK24 _ ?_
  clear hK24 K24
  refine AT_cond (b := true) (g := none) (by simp [h91]) (fun hb => ?_) (fun hb => ?_)
  ·
   clear hb
   refine AT_seq_region fun K25 hK25 => ?_
   simp [encE_mk, encTy_mk, h91]
   repeat refine sg ?_
   refine RVn_callC (c_read_Cursor_targs g q b q L hT c.name (fun h => by have := (Cur.name_next h).2; have := c.name.adv_suf.length_le; omega) (c.name_suf.trans hcL) (by omega) (by omega)) rfl ?_
   simp [encE_mk, encTy_mk, h91]
   repeat refine sg ?_
   refine hK25 _ ?_
   clear hK25 K25
   refine AT_seq_region fun K26 hK26 => ?_
   simp [encE_mk, h91]
   repeat refine sg ?_
   refine RVn_callC (c_read_Cursor_Must g [123] b _ (by omega)) rfl ?_
   simp [encE_mk, h91]
   repeat refine sg ?_
   refine hK26 _ ?_
   clear hK26 K26
   refine AT_region_q fun K27 hK27 => ?_
   simp [encE_mk, h91]
   repeat refine sg ?_
   refine RVn_callC (c_read_Cursor_args g q b q L hE [125] _ (by omega) (hms.trans (hgs.trans (c.name_suf.trans hcL))) (by omega) (by omega)) rfl ?_
   simp [encE_mk, h91]
   repeat refine sg ?_
   refine hK27 _ ?_
   clear hK27 K27
   try simp only [nrm, reduceIte, Nat.reduceEqDiff]
   refine hK4 _ ?_
   refine AT_seq_k fun K28 hK28 => ?_
   refine AT_block ?_
   refine AT_loop_q [0,2,5] [2,5] (fun j s => ∃ k e, dotsC (restC (typeC q) (exprC q)) (baseC (typeC q) (exprC q) c).2.l.length (baseC (typeC q) (exprC q) c).1 (baseC (typeC q) (exprC q) c).2 = dotsC (restC (typeC q) (exprC q)) k.l.length e k ∧ k.l <:+ c.l ∧ j = k.l.length ∧ s = { n := 38, tm := [(0, .v (.gp b 0) none), (2, .lp 2 0), (5, .lp 5 0)], bx := [(2, [.int .i64 0, .str [], .str [], .slice [], .int .i64 0, .slice [], .slice [], .int .i64 0]), (5, encE e)], tb := [], sh := [(b, (encC 108 k))], hint := [] }) ((baseC (typeC q) (exprC q) c).2.l.length) (by first | rfl | simp) ?_ ?_
   ·
    refine ⟨(baseC (typeC q) (exprC q) c).2, (baseC (typeC q) (exprC q) c).1, rfl, hbs, rfl, ?_⟩
    first
    | (simp [baseC, h91, h123, encE_mk, ty0]; done)
    | (simp [baseC, h91, encE_mk]; done)
    | (simp [baseC, h123, encE_mk]; done)
   ·
    rintro j s ⟨k, e, hk, hkc, rfl, rfl⟩ K29 hK29
    refine AT_seq_k fun K30 hK30 => ?_
    have hkl := hkc.length_le
    cases hnx : k.next [46]
    ·
     refine AT_seq_region fun K31 hK31 => ?_
     simp [encE_mk, Cur.take, h91, hnx]
     repeat refine sg ?_
     refine RVn_callC (c_read_Cursor_Take g [46] b k (by omega)) rfl ?_
     simp [encE_mk, Cur.take, h91, hnx]
     repeat refine sg ?_
     refine hK31 _ ?_
     clear hK31 K31
     refine AT_cond (b := false) (g := none) (by simp [h91, hnx]) (fun hb => ?_) (fun hb => ?_)
     ·
      cases hb
     ·
      clear hb
      refine AT_exit ?_
      try simp only [nrm, reduceIte, Nat.reduceEqDiff]
      refine hK28 _ ?_
      refine AT_seq_region fun K32 hK32 => ?_
      simp [encE_mk, h91, hnx]
      repeat refine sg ?_
      refine hK32 _ ?_
      clear hK32 K32
      refine AT_ret ?_
      simp [encE_mk, Tryz.f19]
      rw [exprC, hk, dotsC_at hrl, if_neg (by simp [hnx])]; simp
    ·
     have ha := Cur.adv_len hnx
     have hla := hrl e k.adv
     refine AT_seq_region fun K33 hK33 => ?_
     simp [encE_mk, Cur.take, h91, hnx]
     repeat refine sg ?_
     refine RVn_callC (c_read_Cursor_Take g [46] b k (by omega)) rfl ?_
     simp [encE_mk, Cur.take, h91, hnx]
     repeat refine sg ?_
     refine hK33 _ ?_
     clear hK33 K33
     refine AT_cond (b := true) (g := none) (by simp [h91, hnx]) (fun hb => ?_) (fun hb => ?_)
     ·
      clear hb
      refine AT_skip ?_
      try simp only [nrm, reduceIte, Nat.reduceEqDiff]
      refine hK30 _ ?_
      refine AT_block ?_
      refine AT_region_q fun K34 hK34 => ?_
      simp [encE_mk, h91, hnx]
      repeat refine sg ?_
      refine RVn_callC (c_read_Cursor_rest g q b q L hL hLn hnm hT hE e k.adv (by omega) (k.adv_suf.trans (hkc.trans hcL)) (by omega)) rfl ?_
      simp [encE_mk, h91, hnx]
      repeat refine sg ?_
      refine hK34 _ ?_
      clear hK34 K34
      try simp only [nrm, reduceIte, Nat.reduceEqDiff]
      refine hK29 _ (by first | rfl | simp) ((restC (typeC q) (exprC q) e k.adv).2.l.length) (by omega) ?_
      exact ⟨(restC (typeC q) (exprC q) e k.adv).2, (restC (typeC q) (exprC q) e k.adv).1, by rw [hk, dotsC_at hrl, if_pos hnx], (hrs _ _).trans (k.adv_suf.trans hkc), rfl, by simp⟩
     ·
      cases hb
  ·
   cases hb

end Go.Proofs.YtpjkdaechknogaaGreatDoor
end

section
/- Contracts: lex.Tokens. -/
set_option linter.all false
set_option maxHeartbeats 1000000
set_option maxRecDepth 10000
namespace Go.Proofs.YtpjkdaechknogaaGreatDoor
open Go Go.Pv
variable (g : Nat → Option (List AV)) (rnd : Bool)

theorem c_lex_Tokens (s : Str) (hs : s.length ≤ 1000000000) : Valid Tryz.prog (G0 g rnd) 12 [.str s] (lexV 108 (lexT s)) := by

 refine valid_of [(104000, 77)] Tryz.func12 rfl (by kernel_rfl) ?_
 refine AT_seq_region fun K1 hK1 => ?_
 simp [Tryz.f12]
 repeat (refine ⟨by first | omega | assumption | exact Rows_map _ _ encK_cells _ | exact ⟨Rows_map _ _ encK_cells _, by omega⟩ | (simp at *; omega), ?_⟩)
 refine hK1 _ ?_
 clear hK1 K1
 refine AT_scope ?_
 refine AT_seq_k fun K2 hK2 => ?_
 refine AT_seq_region fun K3 hK3 => ?_
 simp
 repeat (refine ⟨by first | omega | assumption | exact Rows_map _ _ encK_cells _ | exact ⟨Rows_map _ _ encK_cells _, by omega⟩ | (simp at *; omega), ?_⟩)
 refine hK3 _ ?_
 clear hK3 K3
 refine AT_cond (g := none) rfl (fun hb11 => ?_) (fun hb11 => ?_)
 ·
  try simp at hb11
  refine AT_seq_region fun K4 hK4 => ?_
  simp [hb11]
  repeat (refine ⟨by first | omega | assumption | exact Rows_map _ _ encK_cells _ | exact ⟨Rows_map _ _ encK_cells _, by omega⟩ | (simp at *; omega), ?_⟩)
  refine RVn_call (c_fault_New g rnd _ _) ?_
  simp [hb11]
  repeat (refine ⟨by first | omega | assumption | exact Rows_map _ _ encK_cells _ | exact ⟨Rows_map _ _ encK_cells _, by omega⟩ | (simp at *; omega), ?_⟩)
  refine hK4 _ ?_
  clear hK4 K4
  refine AT_ret ?_
  simp [Tryz.f12]
  first
  | (obtain ⟨n, rfl⟩ : ∃ m, n = m + 1 := ⟨n - 1, by omega⟩
     rw [lxA_com0 hb17 hb23 hb31 hb37] at hc
     rw [hc]
     exact ⟨_, rfl, by simp [encK]⟩)
  | (obtain ⟨n, rfl⟩ : ∃ m, n = m + 1 := ⟨n - 1, by omega⟩
     rw [lxA_bad hb17 hb23 hb31 hb41 hb51] at hc
     rw [hc]
     exact ⟨_, rfl, by simp [encK]⟩)
  | (obtain ⟨n, rfl⟩ : ∃ m, n = m + 1 := ⟨n - 1, by omega⟩
     rw [lxA_end hk hb17] at hc
     rw [hc]
     exact ⟨_, rfl, by simp [encK]⟩)
  | (rw [show lexT s = (none, 65536) by unfold lexT; rw [if_neg (by omega)]]
     exact ⟨_, rfl, by simp⟩)
 ·
  try simp at hb11
  refine AT_skip ?_
  try simp only [nrm, reduceIte, Nat.reduceEqDiff]
  refine hK2 _ ?_
  refine AT_seq_region fun K5 hK5 => ?_
  simp [hb11]
  repeat (refine ⟨by first | omega | assumption | exact Rows_map _ _ encK_cells _ | exact ⟨Rows_map _ _ encK_cells _, by omega⟩ | (simp at *; omega), ?_⟩)
  refine hK5 _ ?_
  clear hK5 K5
  refine AT_seq_region fun K6 hK6 => ?_
  simp [hb11]
  repeat (refine ⟨by first | omega | assumption | exact Rows_map _ _ encK_cells _ | exact ⟨Rows_map _ _ encK_cells _, by omega⟩ | (simp at *; omega), ?_⟩)
  refine hK6 _ ?_
  clear hK6 K6
  refine AT_seq_region fun K7 hK7 => ?_
  simp [hb11]
  repeat (refine ⟨by first | omega | assumption | exact Rows_map _ _ encK_cells _ | exact ⟨Rows_map _ _ encK_cells _, by omega⟩ | (simp at *; omega), ?_⟩)
  refine hK7 _ ?_
  clear hK7 K7
  refine AT_seq_k fun K8 hK8 => ?_
  refine AT_label ?_
  try simp only [nrm, reduceIte, Nat.reduceEqDiff]
  refine hK8 _ ?_
  refine AT_seq_k fun K9 hK9 => ?_
  refine AT_block ?_
  refine AT_loop_q [1,2,3,4,5,6] [4,1,5] (fun j s1 => ∃ k n out, (k ≤ s.length ∧ out.length ≤ k ∧ s.length - k < n) ∧ lexT s = lxA n out k (s.drop k) ∧ j = s.length - k ∧ s1 = { n := 65, tm := [(1, .lp 1 0), (2, .v (.slice []) none), (3, .v .nilIface none), (4, .lp 4 0), (5, .lp 5 0), (6, .cl 34 [4, 1, 5])], bx := [(4, [.slice (out.map encK)]), (1, [.str s]), (5, [.int .i64 (k : Nat)])], tb := [(4, 0, gid 4 0, 77)], sh := [], hint := [(104000, 77)] }) (s.length) (by first | rfl | simp) ?_ ?_
  ·
   exact ⟨0, s.length + 1, [], by simp [lexT]; omega⟩
  ·
   rintro j s1 ⟨k, n, out, ⟨hk, hol, hn⟩, hc, rfl, rfl⟩ K10 hK10
   refine AT_seq_k fun K11 hK11 => ?_
   refine AT_seq_region fun K12 hK12 => ?_
   simp [hb11]
   repeat (refine ⟨by first | omega | assumption | exact Rows_map _ _ encK_cells _ | exact ⟨Rows_map _ _ encK_cells _, by omega⟩ | (simp at *; omega), ?_⟩)
   refine hK12 _ ?_
   clear hK12 K12
   refine AT_cond (g := none) rfl (fun hb17 => ?_) (fun hb17 => ?_)
   ·
    try simp [hb11] at hb17
    refine AT_skip ?_
    try simp only [nrm, reduceIte, Nat.reduceEqDiff]
    refine hK11 _ ?_
    refine AT_block ?_
    refine AT_seq_region fun K13 hK13 => ?_
    simp [hb11, hb17]
    repeat (refine ⟨by first | omega | assumption | exact Rows_map _ _ encK_cells _ | exact ⟨Rows_map _ _ encK_cells _, by omega⟩ | (simp at *; omega), ?_⟩)
    refine hK13 _ ?_
    clear hK13 K13
    refine AT_block ?_
    refine AT_seq_region fun K14 hK14 => ?_
    simp [hb11, hb17]
    repeat (refine ⟨by first | omega | assumption | exact Rows_map _ _ encK_cells _ | exact ⟨Rows_map _ _ encK_cells _, by omega⟩ | (simp at *; omega), ?_⟩)
    refine RVn_call (c_name_Class g rnd _) ?_
    simp [hb11, hb17]
    repeat (refine ⟨by first | omega | assumption | exact Rows_map _ _ encK_cells _ | exact ⟨Rows_map _ _ encK_cells _, by omega⟩ | (simp at *; omega), ?_⟩)
    refine hK14 _ ?_
    clear hK14 K14
    refine AT_cond (g := none) rfl (fun hb23 => ?_) (fun hb23 => ?_)
    ·
     try simp [hb11, hb17] at hb23
     refine AT_region_q fun K15 hK15 => ?_
     obtain ⟨kk, hkk⟩ : ∃ kk, kk = k + 1 := ⟨_, rfl⟩
     simp [hb11, hb17, hb23]
     repeat (refine ⟨by first | omega | assumption | exact Rows_map _ _ encK_cells _ | exact ⟨Rows_map _ _ encK_cells _, by omega⟩ | (simp at *; omega), ?_⟩)
     refine hK15 _ ?_
     clear hK15 K15
     try simp only [nrm, reduceIte, Nat.reduceEqDiff]
     refine hK10 _ (by first | rfl | simp) (s.length - kk) (by omega) ?_
     have hn1 : 0 < n := by omega
     obtain ⟨n, rfl⟩ : ∃ m, n = m + 1 := ⟨n - 1, by omega⟩
     first
     | (rw [lxA_sp hb17 hb23] at hc
        refine ⟨kk, n, _, ⟨?_, ?_, ?_⟩, by rw [hc, ← hkk], rfl, ?_⟩
        · omega
        · (try simp only [List.length_append, List.length_singleton]); omega
        · omega
        · simp [hkk, encK, List.map_append])
     | (rw [lxA_com hb17 hb23 hb31 hb37] at hc
        refine ⟨kk, n, _, ⟨?_, ?_, ?_⟩, by rw [hc, ← hkk], rfl, ?_⟩
        · omega
        · (try simp only [List.length_append, List.length_singleton]); omega
        · omega
        · simp [hkk, encK, List.map_append, Int.toNat_of_nonneg hb37])
     | (rw [lxA_word hb17 hb23 hb31 hb41] at hc
        refine ⟨kk, n, _, ⟨?_, ?_, ?_⟩, by rw [hc, ← hkk], rfl, ?_⟩
        · omega
        · (try simp only [List.length_append, List.length_singleton]); omega
        · omega
        · simp [hkk, encK, List.map_append, toNat_add, drop_take_add])
     | (rw [lxA_sign hb17 hb23 hb31 hb41 hb51] at hc
        refine ⟨kk, n, _, ⟨?_, ?_, ?_⟩, by rw [hc, ← hkk], rfl, ?_⟩
        · omega
        · (try simp only [List.length_append, List.length_singleton]); omega
        · omega
        · simp [hkk, encK, List.map_append, drop_take_one hb17])
    ·
     try simp [hb11, hb17] at hb23
     refine AT_seq_region fun K16 hK16 => ?_
     simp [hb11, hb17, hb23]
     repeat (refine ⟨by first | omega | assumption | exact Rows_map _ _ encK_cells _ | exact ⟨Rows_map _ _ encK_cells _, by omega⟩ | (simp at *; omega), ?_⟩)
     refine RVn_call (c_strings_HasPrefix g rnd _ _) ?_
     simp [hb11, hb17, hb23]
     repeat (refine ⟨by first | omega | assumption | exact Rows_map _ _ encK_cells _ | exact ⟨Rows_map _ _ encK_cells _, by omega⟩ | (simp at *; omega), ?_⟩)
     refine hK16 _ ?_
     clear hK16 K16
     refine AT_cond (g := none) rfl (fun hb31 => ?_) (fun hb31 => ?_)
     ·
      try simp [hb11, hb17, hb23] at hb31
      refine AT_seq_region fun K17 hK17 => ?_
      simp [hb11, hb17, hb23, hb31]
      repeat (refine ⟨by first | omega | assumption | exact Rows_map _ _ encK_cells _ | exact ⟨Rows_map _ _ encK_cells _, by omega⟩ | (simp at *; omega), ?_⟩)
      refine RVn_call (c_strings_IndexByte g rnd _ 10) ?_
      simp [hb11, hb17, hb23, hb31]
      repeat (refine ⟨by first | omega | assumption | exact Rows_map _ _ encK_cells _ | exact ⟨Rows_map _ _ encK_cells _, by omega⟩ | (simp at *; omega), ?_⟩)
      refine hK17 _ ?_
      clear hK17 K17
      refine AT_seq_k fun K18 hK18 => ?_
      refine AT_seq_region fun K19 hK19 => ?_
      simp [hb11, hb17, hb23, hb31]
      repeat (refine ⟨by first | omega | assumption | exact Rows_map _ _ encK_cells _ | exact ⟨Rows_map _ _ encK_cells _, by omega⟩ | (simp at *; omega), ?_⟩)
      refine hK19 _ ?_
      clear hK19 K19
      refine AT_cond (g := none) rfl (fun hb37 => ?_) (fun hb37 => ?_)
      ·
       try simp [hb11, hb17, hb23, hb31] at hb37
       refine AT_exit ?_
       try simp only [nrm, reduceIte, Nat.reduceEqDiff]
       refine hK9 _ ?_
       refine AT_seq_region fun K20 hK20 => ?_
       simp [hb11, hb17, hb23, hb31, hb37]
       repeat (refine ⟨by first | omega | assumption | exact Rows_map _ _ encK_cells _ | exact ⟨Rows_map _ _ encK_cells _, by omega⟩ | (simp at *; omega), ?_⟩)
       refine hK20 _ ?_
       clear hK20 K20
       refine AT_ret ?_
       simp [Tryz.f12]
       first
       | (obtain ⟨n, rfl⟩ : ∃ m, n = m + 1 := ⟨n - 1, by omega⟩
          rw [lxA_com0 hb17 hb23 hb31 hb37] at hc
          rw [hc]
          exact ⟨_, rfl, by simp [encK]⟩)
       | (obtain ⟨n, rfl⟩ : ∃ m, n = m + 1 := ⟨n - 1, by omega⟩
          rw [lxA_bad hb17 hb23 hb31 hb41 hb51] at hc
          rw [hc]
          exact ⟨_, rfl, by simp [encK]⟩)
       | (obtain ⟨n, rfl⟩ : ∃ m, n = m + 1 := ⟨n - 1, by omega⟩
          rw [lxA_end hk hb17] at hc
          rw [hc]
          exact ⟨_, rfl, by simp [encK]⟩)
       | (rw [show lexT s = (none, 65536) by unfold lexT; rw [if_neg (by omega)]]
          exact ⟨_, rfl, by simp⟩)
      ·
       try simp [hb11, hb17, hb23, hb31] at hb37
       refine AT_skip ?_
       try simp only [nrm, reduceIte, Nat.reduceEqDiff]
       refine hK18 _ ?_
       refine AT_region_q fun K21 hK21 => ?_
       have hil := Lib.indexByte_ge (s.drop k) 10
       have hiu := (indexByte_lt (s.drop k) 10).resolve_right (by simp; omega)
       rw [List.length_drop] at hiu
       obtain ⟨kk, hkk⟩ : ∃ kk, kk = k + (Lib.indexByte (s.drop k) 10).toNat := ⟨_, rfl⟩
       have hcp := com_pos hb17 hb31 hb37
       simp [hb11, hb17, hb23, hb31, hb37]
       repeat (refine ⟨by first | omega | assumption | exact Rows_map _ _ encK_cells _ | exact ⟨Rows_map _ _ encK_cells _, by omega⟩ | (simp at *; omega), ?_⟩)
       refine hK21 _ ?_
       clear hK21 K21
       try simp only [nrm, reduceIte, Nat.reduceEqDiff]
       refine hK10 _ (by first | rfl | simp) (s.length - kk) (by omega) ?_
       have hn1 : 0 < n := by omega
       obtain ⟨n, rfl⟩ : ∃ m, n = m + 1 := ⟨n - 1, by omega⟩
       first
       | (rw [lxA_sp hb17 hb23] at hc
          refine ⟨kk, n, _, ⟨?_, ?_, ?_⟩, by rw [hc, ← hkk], rfl, ?_⟩
          · omega
          · (try simp only [List.length_append, List.length_singleton]); omega
          · omega
          · simp [hkk, encK, List.map_append])
       | (rw [lxA_com hb17 hb23 hb31 hb37] at hc
          refine ⟨kk, n, _, ⟨?_, ?_, ?_⟩, by rw [hc, ← hkk], rfl, ?_⟩
          · omega
          · (try simp only [List.length_append, List.length_singleton]); omega
          · omega
          · simp [hkk, encK, List.map_append, Int.toNat_of_nonneg hb37])
       | (rw [lxA_word hb17 hb23 hb31 hb41] at hc
          refine ⟨kk, n, _, ⟨?_, ?_, ?_⟩, by rw [hc, ← hkk], rfl, ?_⟩
          · omega
          · (try simp only [List.length_append, List.length_singleton]); omega
          · omega
          · simp [hkk, encK, List.map_append, toNat_add, drop_take_add])
       | (rw [lxA_sign hb17 hb23 hb31 hb41 hb51] at hc
          refine ⟨kk, n, _, ⟨?_, ?_, ?_⟩, by rw [hc, ← hkk], rfl, ?_⟩
          · omega
          · (try simp only [List.length_append, List.length_singleton]); omega
          · omega
          · simp [hkk, encK, List.map_append, drop_take_one hb17])
     ·
      try simp [hb11, hb17, hb23] at hb31
      refine AT_seq_region fun K22 hK22 => ?_
      simp [hb11, hb17, hb23, hb31]
      repeat (refine ⟨by first | omega | assumption | exact Rows_map _ _ encK_cells _ | exact ⟨Rows_map _ _ encK_cells _, by omega⟩ | (simp at *; omega), ?_⟩)
      refine RVn_call (c_name_Class g rnd _) ?_
      simp [hb11, hb17, hb23, hb31]
      repeat (refine ⟨by first | omega | assumption | exact Rows_map _ _ encK_cells _ | exact ⟨Rows_map _ _ encK_cells _, by omega⟩ | (simp at *; omega), ?_⟩)
      refine hK22 _ ?_
      clear hK22 K22
      refine AT_cond (g := none) rfl (fun hb41 => ?_) (fun hb41 => ?_)
      ·
       try simp [hb11, hb17, hb23, hb31] at hb41
       refine AT_region_q fun K23 hK23 => ?_
       have hwl := wordN_le (s.drop k)
       rw [List.length_drop] at hwl
       obtain ⟨kk, hkk⟩ : ∃ kk, kk = k + wordN (s.drop k) := ⟨_, rfl⟩
       have hcp := wordN_pos hb17 hb41
       simp [hb11, hb17, hb23, hb31, hb41]
       repeat (refine ⟨by first | omega | assumption | exact Rows_map _ _ encK_cells _ | exact ⟨Rows_map _ _ encK_cells _, by omega⟩ | (simp at *; omega), ?_⟩)
       refine RVn_call (c_lex_word g rnd _ (by simp; omega)) ?_
       simp [hb11, hb17, hb23, hb31, hb41]
       repeat (refine ⟨by first | omega | assumption | exact Rows_map _ _ encK_cells _ | exact ⟨Rows_map _ _ encK_cells _, by omega⟩ | (simp at *; omega), ?_⟩)
       refine RVn_callB (c_lex_Tokens_1 g rnd _ _ _ _ _ (by omega) (by omega) (by omega) (by omega) (Rows_map _ _ encK_cells _) (by simp; omega)) (by simp) ?_
       simp [hb11, hb17, hb23, hb31, hb41]
       repeat (refine ⟨by first | omega | assumption | exact Rows_map _ _ encK_cells _ | exact ⟨Rows_map _ _ encK_cells _, by omega⟩ | (simp at *; omega), ?_⟩)
       refine hK23 _ ?_
       clear hK23 K23
       try simp only [nrm, reduceIte, Nat.reduceEqDiff]
       refine hK10 _ (by first | rfl | simp) (s.length - kk) (by omega) ?_
       have hn1 : 0 < n := by omega
       obtain ⟨n, rfl⟩ : ∃ m, n = m + 1 := ⟨n - 1, by omega⟩
       first
       | (rw [lxA_sp hb17 hb23] at hc
          refine ⟨kk, n, _, ⟨?_, ?_, ?_⟩, by rw [hc, ← hkk], rfl, ?_⟩
          · omega
          · (try simp only [List.length_append, List.length_singleton]); omega
          · omega
          · simp [hkk, encK, List.map_append])
       | (rw [lxA_com hb17 hb23 hb31 hb37] at hc
          refine ⟨kk, n, _, ⟨?_, ?_, ?_⟩, by rw [hc, ← hkk], rfl, ?_⟩
          · omega
          · (try simp only [List.length_append, List.length_singleton]); omega
          · omega
          · simp [hkk, encK, List.map_append, Int.toNat_of_nonneg hb37])
       | (rw [lxA_word hb17 hb23 hb31 hb41] at hc
          refine ⟨kk, n, _, ⟨?_, ?_, ?_⟩, by rw [hc, ← hkk], rfl, ?_⟩
          · omega
          · (try simp only [List.length_append, List.length_singleton]); omega
          · omega
          · simp [hkk, encK, List.map_append, toNat_add, drop_take_add])
       | (rw [lxA_sign hb17 hb23 hb31 hb41 hb51] at hc
          refine ⟨kk, n, _, ⟨?_, ?_, ?_⟩, by rw [hc, ← hkk], rfl, ?_⟩
          · omega
          · (try simp only [List.length_append, List.length_singleton]); omega
          · omega
          · simp [hkk, encK, List.map_append, drop_take_one hb17])
      ·
       try simp [hb11, hb17, hb23, hb31] at hb41
       refine AT_seq_region fun K24 hK24 => ?_
       simp [hb11, hb17, hb23, hb31, hb41]
       repeat (refine ⟨by first | omega | assumption | exact Rows_map _ _ encK_cells _ | exact ⟨Rows_map _ _ encK_cells _, by omega⟩ | (simp at *; omega), ?_⟩)
       refine RVn_call (c_strings_IndexByte g rnd _ _) ?_
       simp [hb11, hb17, hb23, hb31, hb41]
       repeat (refine ⟨by first | omega | assumption | exact Rows_map _ _ encK_cells _ | exact ⟨Rows_map _ _ encK_cells _, by omega⟩ | (simp at *; omega), ?_⟩)
       refine hK24 _ ?_
       clear hK24 K24
       refine AT_cond (g := none) rfl (fun hb51 => ?_) (fun hb51 => ?_)
       ·
        try simp [hb11, hb17, hb23, hb31, hb41] at hb51
        refine AT_region_q fun K25 hK25 => ?_
        obtain ⟨kk, hkk⟩ : ∃ kk, kk = k + 1 := ⟨_, rfl⟩
        simp [hb11, hb17, hb23, hb31, hb41, hb51]
        repeat (refine ⟨by first | omega | assumption | exact Rows_map _ _ encK_cells _ | exact ⟨Rows_map _ _ encK_cells _, by omega⟩ | (simp at *; omega), ?_⟩)
        refine RVn_callB (c_lex_Tokens_1 g rnd _ _ _ _ _ (by omega) (by omega) (by omega) (by omega) (Rows_map _ _ encK_cells _) (by simp; omega)) (by simp) ?_
        simp [hb11, hb17, hb23, hb31, hb41, hb51]
        repeat (refine ⟨by first | omega | assumption | exact Rows_map _ _ encK_cells _ | exact ⟨Rows_map _ _ encK_cells _, by omega⟩ | (simp at *; omega), ?_⟩)
        refine hK25 _ ?_
        clear hK25 K25
        try simp only [nrm, reduceIte, Nat.reduceEqDiff]
        refine hK10 _ (by first | rfl | simp) (s.length - kk) (by omega) ?_
        have hn1 : 0 < n := by omega
        obtain ⟨n, rfl⟩ : ∃ m, n = m + 1 := ⟨n - 1, by omega⟩
        first
        | (rw [lxA_sp hb17 hb23] at hc
           refine ⟨kk, n, _, ⟨?_, ?_, ?_⟩, by rw [hc, ← hkk], rfl, ?_⟩
           · omega
           · (try simp only [List.length_append, List.length_singleton]); omega
           · omega
           · simp [hkk, encK, List.map_append])
        | (rw [lxA_com hb17 hb23 hb31 hb37] at hc
           refine ⟨kk, n, _, ⟨?_, ?_, ?_⟩, by rw [hc, ← hkk], rfl, ?_⟩
           · omega
           · (try simp only [List.length_append, List.length_singleton]); omega
           · omega
           · simp [hkk, encK, List.map_append, Int.toNat_of_nonneg hb37])
        | (rw [lxA_word hb17 hb23 hb31 hb41] at hc
           refine ⟨kk, n, _, ⟨?_, ?_, ?_⟩, by rw [hc, ← hkk], rfl, ?_⟩
           · omega
           · (try simp only [List.length_append, List.length_singleton]); omega
           · omega
           · simp [hkk, encK, List.map_append, toNat_add, drop_take_add])
        | (rw [lxA_sign hb17 hb23 hb31 hb41 hb51] at hc
           refine ⟨kk, n, _, ⟨?_, ?_, ?_⟩, by rw [hc, ← hkk], rfl, ?_⟩
           · omega
           · (try simp only [List.length_append, List.length_singleton]); omega
           · omega
           · simp [hkk, encK, List.map_append, drop_take_one hb17])
       ·
        try simp [hb11, hb17, hb23, hb31, hb41] at hb51
        refine AT_seq_region fun K26 hK26 => ?_
        simp [hb11, hb17, hb23, hb31, hb41, hb51]
        repeat (refine ⟨by first | omega | assumption | exact Rows_map _ _ encK_cells _ | exact ⟨Rows_map _ _ encK_cells _, by omega⟩ | (simp at *; omega), ?_⟩)
        refine RVn_call (c_fault_New g rnd _ _) ?_
        simp [hb11, hb17, hb23, hb31, hb41, hb51]
        repeat (refine ⟨by first | omega | assumption | exact Rows_map _ _ encK_cells _ | exact ⟨Rows_map _ _ encK_cells _, by omega⟩ | (simp at *; omega), ?_⟩)
        refine hK26 _ ?_
        clear hK26 K26
        refine AT_ret ?_
        simp [Tryz.f12]
        first
        | (obtain ⟨n, rfl⟩ : ∃ m, n = m + 1 := ⟨n - 1, by omega⟩
           rw [lxA_com0 hb17 hb23 hb31 hb37] at hc
           rw [hc]
           exact ⟨_, rfl, by simp [encK]⟩)
        | (obtain ⟨n, rfl⟩ : ∃ m, n = m + 1 := ⟨n - 1, by omega⟩
           rw [lxA_bad hb17 hb23 hb31 hb41 hb51] at hc
           rw [hc]
           exact ⟨_, rfl, by simp [encK]⟩)
        | (obtain ⟨n, rfl⟩ : ∃ m, n = m + 1 := ⟨n - 1, by omega⟩
           rw [lxA_end hk hb17] at hc
           rw [hc]
           exact ⟨_, rfl, by simp [encK]⟩)
        | (rw [show lexT s = (none, 65536) by unfold lexT; rw [if_neg (by omega)]]
           exact ⟨_, rfl, by simp⟩)
   ·
    try simp [hb11] at hb17
    refine AT_exit ?_
    try simp only [nrm, reduceIte, Nat.reduceEqDiff]
    refine hK9 _ ?_
    refine AT_seq_region fun K27 hK27 => ?_
    simp [hb11, hb17]
    repeat (refine ⟨by first | omega | assumption | exact Rows_map _ _ encK_cells _ | exact ⟨Rows_map _ _ encK_cells _, by omega⟩ | (simp at *; omega), ?_⟩)
    refine hK27 _ ?_
    clear hK27 K27
    refine AT_ret ?_
    simp [Tryz.f12]
    first
    | (obtain ⟨n, rfl⟩ : ∃ m, n = m + 1 := ⟨n - 1, by omega⟩
       rw [lxA_com0 hb17 hb23 hb31 hb37] at hc
       rw [hc]
       exact ⟨_, rfl, by simp [encK]⟩)
    | (obtain ⟨n, rfl⟩ : ∃ m, n = m + 1 := ⟨n - 1, by omega⟩
       rw [lxA_bad hb17 hb23 hb31 hb41 hb51] at hc
       rw [hc]
       exact ⟨_, rfl, by simp [encK]⟩)
    | (obtain ⟨n, rfl⟩ : ∃ m, n = m + 1 := ⟨n - 1, by omega⟩
       rw [lxA_end hk hb17] at hc
       rw [hc]
       exact ⟨_, rfl, by simp [encK]⟩)
    | (rw [show lexT s = (none, 65536) by unfold lexT; rw [if_neg (by omega)]]
       exact ⟨_, rfl, by simp⟩)

end Go.Proofs.YtpjkdaechknogaaGreatDoor
end

section
/- Contracts: texts, read. -/
set_option linter.all false
set_option maxHeartbeats 1000000
set_option maxRecDepth 10000
namespace Go.Proofs.YtpjkdaechknogaaGreatDoor
open Go Go.Pv
variable (g : Nat → Option (List AV)) (rnd : Bool)

theorem c_read_New (l : List Tk) : ValidN Tryz.prog (G0 g false) 13 [.slice (l.map encK)] (encC 108 ⟨l, none⟩) := by

 refine validN_of [] Tryz.func13 rfl (by kernel_rfl) ?_
 refine AT_seq_region fun K1 hK1 => ?_
 simp [Tryz.f13]
 repeat refine sg ?_
 refine hK1 _ ?_
 clear hK1 K1
 refine AT_seq_region fun K2 hK2 => ?_
 simp
 repeat refine sg ?_
 refine hK2 _ ?_
 clear hK2 K2
 refine AT_esc 5 rfl (by simp) (noClP_of (by simp)) fun b => ?_
 refine AT_ret ?_
 simp [Tryz.f13]
 all_goals simp [encC, errA]

theorem c_read_Cursor_End (b : Nat) (c : Cur) (hb : c.l.length ≤ 1000000) : ValidC Tryz.prog (G0 g false) 42 [] b (encC 108 c) (errA 108 (endC c).err) (encC 108 (endC c)) := by

 refine validC_of [] Tryz.func42 rfl (by kernel_rfl) ?_
 refine AT_seq_region fun K1 hK1 => ?_
 simp [encK, Tryz.f42]
 repeat refine sg ?_
 refine hK1 _ ?_
 clear hK1 K1
 refine AT_seq_k fun K2 hK2 => ?_
 cases h3 : (c.first.1 != 3)
 ·
  refine AT_seq_region fun K3 hK3 => ?_
  simp [encK, h3]
  repeat refine sg ?_
  refine RVn_callC (c_read_Cursor_first g b c hb) rfl ?_
  simp [encK, h3]
  repeat refine sg ?_
  refine hK3 _ ?_
  clear hK3 K3
  refine AT_cond (b := false) (g := none) (by simp [h3]) (fun hb => ?_) (fun hb => ?_)
  ·
   cases hb
  ·
   clear hb
   refine AT_skip ?_
   try simp only [nrm, reduceIte, Nat.reduceEqDiff]
   refine hK2 _ ?_
   refine AT_seq_region fun K4 hK4 => ?_
   simp [encK, encC, h3]
   repeat refine sg ?_
   refine hK4 _ ?_
   clear hK4 K4
   refine AT_ret ?_
   simp [encK, Tryz.f42]
   all_goals simp [endC, h3, encC]
 ·
  refine AT_seq_region fun K5 hK5 => ?_
  simp [encK, h3]
  repeat refine sg ?_
  refine RVn_callC (c_read_Cursor_first g b c hb) rfl ?_
  simp [encK, h3]
  repeat refine sg ?_
  refine hK5 _ ?_
  clear hK5 K5
  refine AT_cond (b := true) (g := none) (by simp [h3]) (fun hb => ?_) (fun hb => ?_)
  ·
   clear hb
   refine AT_region_q fun K6 hK6 => ?_
   simp [encK, h3]
   repeat refine sg ?_
   refine RVn_callC (c_read_Cursor_fail g b c hb) rfl ?_
   simp [encK, h3]
   repeat refine sg ?_
   refine hK6 _ ?_
   clear hK6 K6
   try simp only [nrm, reduceIte, Nat.reduceEqDiff]
   refine hK2 _ ?_
   refine AT_seq_region fun K7 hK7 => ?_
   simp [encK, encC, h3]
   repeat refine sg ?_
   refine hK7 _ ?_
   clear hK7 K7
   refine AT_ret ?_
   simp [encK, Tryz.f42]
   all_goals simp [endC, h3, encC]
  ·
   cases hb

theorem c_read_whole_api_Type (s : Str) (hs : s.length ≤ 1000000) (hres : g 1 = some reservedA) : Valid Tryz.prog (G0 g false) 31 [.str s, .func 32 []] (.tup [.agg (encTy (wholeC 108 ty0 rdT s).1), (wholeC 108 ty0 rdT s).2]) := by

 refine valid_of [] Tryz.func31 rfl (by kernel_rfl) ?_
 refine AT_seq_region fun K1 hK1 => ?_
 simp [lexV, Tryz.f31]
 repeat refine sg ?_
 refine hK1 _ ?_
 clear hK1 K1
 refine AT_seq_region fun K2 hK2 => ?_
 simp [lexV]
 repeat refine sg ?_
 refine hK2 _ ?_
 clear hK2 K2
 rcases hx : lexT s with ⟨_ | l, m⟩
 ·
  refine AT_seq_region fun K3 hK3 => ?_
  simp [lexV]
  repeat refine sg ?_
  refine RVn_call ((by have h := c_lex_Tokens g false s (by omega); rw [hx] at h; exact h)) ?_
  simp [lexV]
  repeat refine sg ?_
  refine hK3 _ ?_
  clear hK3 K3
  refine AT_seq_k fun K4 hK4 => ?_
  refine AT_seq_region fun K5 hK5 => ?_
  simp [lexV]
  repeat refine sg ?_
  refine hK5 _ ?_
  clear hK5 K5
  refine AT_cond (b := true) (g := none) (by simp) (fun hb => ?_) (fun hb => ?_)
  ·
   clear hb
   refine AT_seq_region fun K6 hK6 => ?_
   simp [lexV]
   repeat refine sg ?_
   refine hK6 _ ?_
   clear hK6 K6
   refine AT_ret ?_
   simp [lexV, Tryz.f31]
   all_goals first | (simp [wholeC, hx, enc_ty0]; done) | (simp [wholeC, hx, ← hp, he, errA, enc_ty0]; done)
  ·
   cases hb
 ·
  obtain ⟨hsl, hll, hlt⟩ := lexT_bounds hx
  obtain ⟨p, hp⟩ : ∃ p, p = rdT l := ⟨_, rfl⟩
  have hpl : p.2.l.length ≤ l.length := by rw [hp]; exact (typeC_suf _ _).length_le
  refine AT_seq_region fun K7 hK7 => ?_
  simp [lexV]
  repeat refine sg ?_
  refine RVn_call ((by have h := c_lex_Tokens g false s (by omega); rw [hx] at h; exact h)) ?_
  simp [lexV]
  repeat refine sg ?_
  refine hK7 _ ?_
  clear hK7 K7
  refine AT_seq_k fun K8 hK8 => ?_
  refine AT_seq_region fun K9 hK9 => ?_
  simp [lexV]
  repeat refine sg ?_
  refine hK9 _ ?_
  clear hK9 K9
  refine AT_cond (b := false) (g := none) (by simp) (fun hb => ?_) (fun hb => ?_)
  ·
   cases hb
  ·
   clear hb
   refine AT_skip ?_
   try simp only [nrm, reduceIte, Nat.reduceEqDiff]
   refine hK8 _ ?_
   refine AT_seq_region fun K10 hK10 => ?_
   simp [lexV]
   repeat refine sg ?_
   refine RVn_callN (c_read_New g l) fun b => ?_
   simp [lexV]
   repeat refine sg ?_
   refine hK10 _ ?_
   clear hK10 K10
   refine AT_seq_region fun K11 hK11 => ?_
   simp [lexV]
   repeat refine sg ?_
   refine RVn_callC ((by have h := c_read_Cursor_Type g b l (fun t ht => by have := hlt t ht; omega) (by omega) (fun s hs => c_name_Is g false s (by omega) hres) (l.length + 1) ⟨l, none⟩ (Nat.lt_succ_self _) (by omega) (List.suffix_refl _); rw [show typeC (l.length + 1) ⟨l, none⟩ = p from hp.symm] at h; exact h)) rfl ?_
   simp [lexV]
   repeat refine sg ?_
   refine hK11 _ ?_
   clear hK11 K11
   refine AT_seq_k fun K12 hK12 => ?_
   refine AT_seq_region fun K13 hK13 => ?_
   simp [lexV]
   repeat refine sg ?_
   refine RVn_callC (c_read_Cursor_End g b p.2 (by omega)) rfl ?_
   simp [lexV]
   repeat refine sg ?_
   refine hK13 _ ?_
   clear hK13 K13
   cases he : (endC p.2).err
   ·
    refine AT_seq_region fun K14 hK14 => ?_
    simp [lexV, errA, he]
    repeat refine sg ?_
    refine hK14 _ ?_
    clear hK14 K14
    refine AT_cond (b := false) (g := none) (by simp [he]) (fun hb => ?_) (fun hb => ?_)
    ·
     cases hb
    ·
     clear hb
     refine AT_skip ?_
     try simp only [nrm, reduceIte, Nat.reduceEqDiff]
     refine hK12 _ ?_
     refine AT_seq_region fun K15 hK15 => ?_
     simp [lexV, he]
     repeat refine sg ?_
     refine hK15 _ ?_
     clear hK15 K15
     refine AT_ret ?_
     simp [lexV, Tryz.f31]
     all_goals first | (simp [wholeC, hx, enc_ty0]; done) | (simp [wholeC, hx, ← hp, he, errA, enc_ty0]; done)
   ·
    refine AT_seq_region fun K16 hK16 => ?_
    simp [lexV, errA, he]
    repeat refine sg ?_
    refine hK16 _ ?_
    clear hK16 K16
    refine AT_cond (b := true) (g := none) (by simp [he]) (fun hb => ?_) (fun hb => ?_)
    ·
     clear hb
     refine AT_seq_region fun K17 hK17 => ?_
     simp [lexV, he]
     repeat refine sg ?_
     refine hK17 _ ?_
     clear hK17 K17
     refine AT_ret ?_
     simp [lexV, Tryz.f31]
     all_goals first | (simp [wholeC, hx, enc_ty0]; done) | (simp [wholeC, hx, ← hp, he, errA, enc_ty0]; done)
    ·
     cases hb

theorem c_read_Type (s : Str) (hs : s.length ≤ 1000000) (hres : g 1 = some reservedA) : Valid Tryz.prog (G0 g false) 11 [.str s] (.tup [.agg (encTy (wholeC 108 ty0 rdT s).1), (wholeC 108 ty0 rdT s).2]) := by

 refine valid_of [] Tryz.func11 rfl (by kernel_rfl) ?_
 refine AT_seq_region fun K1 hK1 => ?_
 simp [Tryz.f11]
 repeat refine sg ?_
 refine hK1 _ ?_
 clear hK1 K1
 refine AT_seq_region fun K2 hK2 => ?_
 simp
 repeat refine sg ?_
 refine RVn_call (c_read_whole_api_Type g s hs hres) ?_
 simp
 repeat refine sg ?_
 refine hK2 _ ?_
 clear hK2 K2
 refine AT_ret ?_
 simp [Tryz.f11]

theorem c_read_whole_api_Expr (s : Str) (hs : s.length ≤ 1000000) (hres : g 1 = some reservedA) : Valid Tryz.prog (G0 g false) 18 [.str s, .func 19 []] (.tup [.agg (encE (wholeC 108 ex0 rdE s).1), (wholeC 108 ex0 rdE s).2]) := by

 refine valid_of [] Tryz.func18 rfl (by kernel_rfl) ?_
 refine AT_seq_region fun K1 hK1 => ?_
 simp [lexV, Tryz.f18]
 repeat refine sg ?_
 refine hK1 _ ?_
 clear hK1 K1
 refine AT_seq_region fun K2 hK2 => ?_
 simp [lexV]
 repeat refine sg ?_
 refine hK2 _ ?_
 clear hK2 K2
 rcases hx : lexT s with ⟨_ | l, m⟩
 ·
  refine AT_seq_region fun K3 hK3 => ?_
  simp [lexV]
  repeat refine sg ?_
  refine RVn_call ((by have h := c_lex_Tokens g false s (by omega); rw [hx] at h; exact h)) ?_
  simp [lexV]
  repeat refine sg ?_
  refine hK3 _ ?_
  clear hK3 K3
  refine AT_seq_k fun K4 hK4 => ?_
  refine AT_seq_region fun K5 hK5 => ?_
  simp [lexV]
  repeat refine sg ?_
  refine hK5 _ ?_
  clear hK5 K5
  refine AT_cond (b := true) (g := none) (by simp) (fun hb => ?_) (fun hb => ?_)
  ·
   clear hb
   refine AT_seq_region fun K6 hK6 => ?_
   simp [lexV]
   repeat refine sg ?_
   refine hK6 _ ?_
   clear hK6 K6
   refine AT_ret ?_
   simp [lexV, Tryz.f18]
   all_goals first | (simp [wholeC, hx, enc_ex0]; done) | (simp [wholeC, hx, ← hp, he, errA, enc_ex0]; done)
  ·
   cases hb
 ·
  obtain ⟨hsl, hll, hlt⟩ := lexT_bounds hx
  obtain ⟨p, hp⟩ : ∃ p, p = rdE l := ⟨_, rfl⟩
  have hpl : p.2.l.length ≤ l.length := by rw [hp]; exact (exprC_suf _ _).length_le
  refine AT_seq_region fun K7 hK7 => ?_
  simp [lexV]
  repeat refine sg ?_
  refine RVn_call ((by have h := c_lex_Tokens g false s (by omega); rw [hx] at h; exact h)) ?_
  simp [lexV]
  repeat refine sg ?_
  refine hK7 _ ?_
  clear hK7 K7
  refine AT_seq_k fun K8 hK8 => ?_
  refine AT_seq_region fun K9 hK9 => ?_
  simp [lexV]
  repeat refine sg ?_
  refine hK9 _ ?_
  clear hK9 K9
  refine AT_cond (b := false) (g := none) (by simp) (fun hb => ?_) (fun hb => ?_)
  ·
   cases hb
  ·
   clear hb
   refine AT_skip ?_
   try simp only [nrm, reduceIte, Nat.reduceEqDiff]
   refine hK8 _ ?_
   refine AT_seq_region fun K10 hK10 => ?_
   simp [lexV]
   repeat refine sg ?_
   refine RVn_callN (c_read_New g l) fun b => ?_
   simp [lexV]
   repeat refine sg ?_
   refine hK10 _ ?_
   clear hK10 K10
   refine AT_seq_region fun K11 hK11 => ?_
   simp [lexV]
   repeat refine sg ?_
   refine RVn_callC ((by have h := c_read_Cursor_Expr g b l (fun t ht => by have := hlt t ht; omega) (by omega) (fun s hs => c_name_Is g false s (by omega) hres) (l.length + 1) ⟨l, none⟩ (Nat.lt_succ_self _) (by omega) (List.suffix_refl _); rw [show exprC (l.length + 1) ⟨l, none⟩ = p from hp.symm] at h; exact h)) rfl ?_
   simp [lexV]
   repeat refine sg ?_
   refine hK11 _ ?_
   clear hK11 K11
   refine AT_seq_k fun K12 hK12 => ?_
   refine AT_seq_region fun K13 hK13 => ?_
   simp [lexV]
   repeat refine sg ?_
   refine RVn_callC (c_read_Cursor_End g b p.2 (by omega)) rfl ?_
   simp [lexV]
   repeat refine sg ?_
   refine hK13 _ ?_
   clear hK13 K13
   cases he : (endC p.2).err
   ·
    refine AT_seq_region fun K14 hK14 => ?_
    simp [lexV, errA, he]
    repeat refine sg ?_
    refine hK14 _ ?_
    clear hK14 K14
    refine AT_cond (b := false) (g := none) (by simp [he]) (fun hb => ?_) (fun hb => ?_)
    ·
     cases hb
    ·
     clear hb
     refine AT_skip ?_
     try simp only [nrm, reduceIte, Nat.reduceEqDiff]
     refine hK12 _ ?_
     refine AT_seq_region fun K15 hK15 => ?_
     simp [lexV, he]
     repeat refine sg ?_
     refine hK15 _ ?_
     clear hK15 K15
     refine AT_ret ?_
     simp [lexV, Tryz.f18]
     all_goals first | (simp [wholeC, hx, enc_ex0]; done) | (simp [wholeC, hx, ← hp, he, errA, enc_ex0]; done)
   ·
    refine AT_seq_region fun K16 hK16 => ?_
    simp [lexV, errA, he]
    repeat refine sg ?_
    refine hK16 _ ?_
    clear hK16 K16
    refine AT_cond (b := true) (g := none) (by simp [he]) (fun hb => ?_) (fun hb => ?_)
    ·
     clear hb
     refine AT_seq_region fun K17 hK17 => ?_
     simp [lexV, he]
     repeat refine sg ?_
     refine hK17 _ ?_
     clear hK17 K17
     refine AT_ret ?_
     simp [lexV, Tryz.f18]
     all_goals first | (simp [wholeC, hx, enc_ex0]; done) | (simp [wholeC, hx, ← hp, he, errA, enc_ex0]; done)
    ·
     cases hb

theorem c_read_Expr (s : Str) (hs : s.length ≤ 1000000) (hres : g 1 = some reservedA) : Valid Tryz.prog (G0 g false) 5 [.str s] (.tup [.agg (encE (wholeC 108 ex0 rdE s).1), (wholeC 108 ex0 rdE s).2]) := by

 refine valid_of [] Tryz.func5 rfl (by kernel_rfl) ?_
 refine AT_seq_region fun K1 hK1 => ?_
 simp [Tryz.f5]
 repeat refine sg ?_
 refine hK1 _ ?_
 clear hK1 K1
 refine AT_seq_region fun K2 hK2 => ?_
 simp
 repeat refine sg ?_
 refine RVn_call (c_read_whole_api_Expr g s hs hres) ?_
 simp
 repeat refine sg ?_
 refine hK2 _ ?_
 clear hK2 K2
 refine AT_ret ?_
 simp [Tryz.f5]

end Go.Proofs.YtpjkdaechknogaaGreatDoor
end

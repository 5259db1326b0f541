/- The law: a cursor and a place go on together. -/
import Derived.Test.YtpjkdaechknogaaDoorPt
import Derived.Test.YtpjkdaechknogaaDoorPvPb
import Derived.Test.YtpjkdaechknogaaDoorPvY
import Derived.Test.YtpjkdaechknogaaDoorXRdH
set_option linter.all false
set_option maxHeartbeats 1000000
set_option maxRecDepth 10000
namespace Go.Proofs.YtpjkdaechknogaaDoor
open Go Go.Pv
variable (g : Nat → Option (List AV)) (rnd : Bool)

theorem c_law07x_ReadSteps (s : Str) (m : Int) (hs : s.length ≤ 140737488355328) (hm0 : 0 ≤ m) (hm1 : m ≤ 255) (hres : g 0 = some reservedA) (hty : g 1 = some errTy) : Valid Tryd.prog (G0 g false) 5 [.str s, .int .u8 m] (.bool true) := by
 have hwr : IntKind.i64.wrap m = m := by rw [IntKind.wrap_i64]; omega
 obtain ⟨q6, hq6, hq7⟩ : ∃ q : Nat, m.tmod 6 = q ∧ q ≤ 5 := ⟨(m.tmod 6).toNat, by have := Int.tmod_nonneg 6 hm0; omega, by have := Int.tmod_lt_of_pos m (show (0 : Int) < 6 by decide); omega⟩
 refine valid_of [] Tryd.func5 rfl (by kernel_rfl) ?_
 refine AT_seq_region fun K1 hK1 => ?_
 simp [hwr, hq6, Tryd.f5]
 repeat refine sg ?_
 refine hK1 _ ?_
 clear hK1 K1
 refine AT_seq_k fun K2 hK2 => ?_
 by_cases hbig : (1000 : Int) < s.length
 ·
  refine AT_seq_region fun K3 hK3 => ?_
  simp [hwr, hq6, hbig]
  repeat refine sg ?_
  refine RVn_call (c_law07x_awake g hres hty) ?_
  simp [hwr, hq6, hbig]
  repeat refine sg ?_
  refine hK3 _ ?_
  clear hK3 K3
  refine AT_cond (b := true) (g := none) (by simp [hbig]) (fun hb => ?_) (fun hb => ?_)
  ·
   clear hb
   refine AT_seq_region fun K4 hK4 => ?_
   simp [hwr, hq6, hbig]
   repeat refine sg ?_
   refine RVn_call (c_law07x_awake g hres hty) ?_
   simp [hwr, hq6, hbig]
   repeat refine sg ?_
   refine hK4 _ ?_
   clear hK4 K4
   refine AT_ret ?_
   simp [hwr, hq6, Tryd.f5]
  ·
   cases hb
 ·
  have hsl : s.length ≤ 1000 := by omega
  refine AT_seq_region fun K5 hK5 => ?_
  simp [hwr, hq6, hbig]
  repeat refine sg ?_
  refine RVn_call (c_law07x_awake g hres hty) ?_
  simp [hwr, hq6, hbig]
  repeat refine sg ?_
  refine hK5 _ ?_
  clear hK5 K5
  refine AT_cond (b := false) (g := none) (by simp [hbig]) (fun hb => ?_) (fun hb => ?_)
  ·
   cases hb
  ·
   clear hb
   refine AT_skip ?_
   try simp only [nrm, reduceIte, Nat.reduceEqDiff]
   refine hK2 _ ?_
   rcases hx : lexT s with ⟨_ | L, mm⟩
   ·
    refine AT_seq_region fun K6 hK6 => ?_
    simp [hwr, hq6, lexV, hbig]
    repeat refine sg ?_
    refine RVn_call ((by have h := c_lex_Tokens g false s (by omega); rw [hx] at h; exact h)) ?_
    simp [hwr, hq6, lexV, hbig]
    repeat refine sg ?_
    refine hK6 _ ?_
    clear hK6 K6
    refine AT_seq_region fun K7 hK7 => ?_
    simp [hwr, hq6, lexR, hbig]
    repeat refine sg ?_
    refine RVn_call ((by have h := c_ref03x_Tokens g false s (by omega); rw [hx] at h; exact h)) ?_
    simp [hwr, hq6, lexR, hbig]
    repeat refine sg ?_
    refine hK7 _ ?_
    clear hK7 K7
    refine AT_seq_k fun K8 hK8 => ?_
    refine AT_seq_region fun K9 hK9 => ?_
    simp [hwr, hq6, hbig]
    repeat refine sg ?_
    refine hK9 _ ?_
    clear hK9 K9
    refine AT_cond (b := true) (g := none) (by simp [hbig]) (fun hb => ?_) (fun hb => ?_)
    ·
     clear hb
     refine AT_seq_region fun K10 hK10 => ?_
     simp [hwr, hq6, hbig]
     repeat refine sg ?_
     refine hK10 _ ?_
     clear hK10 K10
     refine AT_ret ?_
     simp [hwr, hq6, Tryd.f5]
    ·
     cases hb
   ·
    obtain ⟨-, hll, hlt⟩ := lexT_bounds hx
    have hE := lexT_ends hx
    refine AT_seq_region fun K11 hK11 => ?_
    simp [hwr, hq6, lexV, hbig]
    repeat refine sg ?_
    refine RVn_call ((by have h := c_lex_Tokens g false s (by omega); rw [hx] at h; exact h)) ?_
    simp [hwr, hq6, lexV, hbig]
    repeat refine sg ?_
    refine hK11 _ ?_
    clear hK11 K11
    refine AT_seq_region fun K12 hK12 => ?_
    simp [hwr, hq6, lexR, hbig]
    repeat refine sg ?_
    refine RVn_call ((by have h := c_ref03x_Tokens g false s (by omega); rw [hx] at h; exact h)) ?_
    simp [hwr, hq6, lexR, hbig]
    repeat refine sg ?_
    refine hK12 _ ?_
    clear hK12 K12
    refine AT_seq_k fun K13 hK13 => ?_
    refine AT_seq_region fun K14 hK14 => ?_
    simp [hwr, hq6, hbig]
    repeat refine sg ?_
    refine hK14 _ ?_
    clear hK14 K14
    refine AT_cond (b := false) (g := none) (by simp [hbig]) (fun hb => ?_) (fun hb => ?_)
    ·
     cases hb
    ·
     clear hb
     refine AT_skip ?_
     try simp only [nrm, reduceIte, Nat.reduceEqDiff]
     refine hK13 _ ?_
     refine AT_seq_region fun K15 hK15 => ?_
     simp [hwr, hq6, hbig]
     repeat refine sg ?_
     refine RVn_callN (c_read_New g L) fun b => ?_
     simp [hwr, hq6, hbig]
     repeat refine sg ?_
     refine hK15 _ ?_
     clear hK15 K15
     refine AT_seq_region fun K16 hK16 => ?_
     simp [hwr, hq6, hbig]
     repeat refine sg ?_
     refine hK16 _ ?_
     clear hK16 K16
     refine AT_seq_k fun K17 hK17 => ?_
     refine AT_seq_region fun K18 hK18 => ?_
     simp [hwr, hq6, hbig]
     repeat refine sg ?_
     refine hK18 _ ?_
     clear hK18 K18
     refine AT_block ?_
     refine AT_loop_q [0,1,8,9,10] [9] (fun j st => ∃ k cur p, Rel L cur p ∧ k ≤ q6 ∧ j = q6 - k ∧ st = { n := 118, tm := [(0, .v (.str s) none), (1, .v (.int .u8 m) none), (8, .v (.gp b 0) none), (9, .lp 9 0), (10, .v (.int .i64 k) none)], bx := [(9, encP L p)], tb := [], sh := [(b, (encC 110 cur))], hint := [] }) (q6) (by first | rfl | simp) ?_ ?_
     ·
      exact ⟨0, ⟨L, none⟩, ⟨0, false⟩, rel0 hE, by omega, by omega, by simp [encP]⟩
     ·
      rintro j st ⟨k, cur, p, hr, hk, rfl, rfl⟩ K19 hK19
      have hr1 := hr.name hE
      have hk9 := hr1.lt
      have hcl : cur.l.length ≤ 140000 := by rw [hr.l, List.length_drop]; omega
      have hnl := cur.name_suf.length_le
      have htx : ∀ t ∈ cur.l, t.2.1.length ≤ 1000000 := fun t ht => by
        rw [hr.l] at ht
        have := hlt t (List.mem_of_mem_drop ht); omega
      refine AT_seq_k fun K20 hK20 => ?_
      refine AT_seq_region fun K21 hK21 => ?_
      simp [hwr, hq6, hbig]
      repeat refine sg ?_
      refine hK21 _ ?_
      clear hK21 K21
      refine AT_cond (g := none) rfl (fun hb47 => ?_) (fun hb47 => ?_)
      ·
       try simp [hwr, hq6, hbig] at hb47
       refine AT_skip ?_
       try simp only [nrm, reduceIte, Nat.reduceEqDiff]
       refine hK20 _ ?_
       refine AT_seq_k fun K22 hK22 => ?_
       refine AT_block ?_
       refine AT_seq_region fun K23 hK23 => ?_
       simp [hwr, hq6, hbig, hb47]
       repeat refine sg ?_
       refine RVn_callC ((by have h := c_read_Cursor_Name g b cur (by omega) (fun s hs => c_name_Is g false s (by omega) hres) htx; rw [hr.nm, hr.pos] at h; exact h)) rfl ?_
       simp [hwr, hq6, hbig, hb47]
       repeat refine sg ?_
       refine hK23 _ ?_
       clear hK23 K23
       refine AT_seq_region fun K24 hK24 => ?_
       simp [hwr, hq6, hbig, hb47]
       repeat refine sg ?_
       refine hK24 _ ?_
       clear hK24 K24
       refine AT_seq_region fun K25 hK25 => ?_
       simp [hwr, hq6, hbig, hb47]
       repeat refine sg ?_
       refine hK25 _ ?_
       clear hK25 K25
       refine AT_seq_region fun K26 hK26 => ?_
       simp [hwr, hq6, encP, hbig, hb47]
       repeat refine sg ?_
       refine RVn_call (c_ref07x_Name g L (by omega) p hr.lt (fun t ht => by have := hlt t ht; omega)) ?_
       simp [hwr, hq6, encP, hbig, hb47]
       repeat refine sg ?_
       refine hK26 _ ?_
       clear hK26 K26
       cases hco : (p.name L).is L [44]
       ·
        rcases Nat.mod_two_eq_zero_or_one k with hk2 | hk2
        ·
         have hk3 := tm2a hk2
         refine AT_seq_region fun K27 hK27 => ?_
         simp [hwr, hq6, hbig, hb47, hco, hk3]
         repeat refine sg ?_
         refine RVn_call ((by have h := c_ref07x_Is g L (by omega) (p.name L) hr1.lt [44]; simp only [encP] at h; exact h)) ?_
         simp [hwr, hq6, hbig, hb47, hco, hk3]
         repeat refine sg ?_
         refine hK27 _ ?_
         clear hK27 K27
         refine AT_seq_k fun K28 hK28 => ?_
         refine AT_seq_any [0, 1, 8, 9, 10, 15, 94] [9] (fun z9 => z9 = { n := 118, tm := [(0, .v (.str s) none), (1, .v (.int .u8 m) none), (8, .v (.gp b 0) none), (9, .lp 9 0), (10, .v (.int .i64 k) none), (15, .v (.bool false) none), (94, .v (.bool false) none)], bx := [(9, encP L (p.name L))], tb := [], sh := [(b, encC 110 cur.name)], hint := [] }) Pt.mixed (fun K hK hQ => ?_) ?_
         ·
          refine ANY_take 0 (by rfl) hQ rfl rfl (by simp) (.inl ⟨_, rfl, rfl⟩) (by kernel_rfl) (by kernel_rfl) (by kernel_rfl) ?_
          refine ANY_take 1 (by rfl) hQ rfl rfl (by simp) (.inl ⟨_, rfl, rfl⟩) (by kernel_rfl) (by kernel_rfl) (by kernel_rfl) ?_
          refine ANY_ready [2] (by kernel_rfl) (by simp) ?_
          refine AnyAll.cons rfl (fun Ka1 hKa1 => ?_) ?_
          ·
           simp [hwr, hq6, encP, hbig, hb47, hco, hk3]
           repeat refine sg ?_
           refine hKa1 _ ?_
           clear hKa1 Ka1
           refine ANY_take 3 (by rfl) hQ rfl rfl (by simp) (.inl ⟨_, rfl, rfl⟩) (by kernel_rfl) (by kernel_rfl) (by kernel_rfl) ?_
           refine ANY_take 4 (by rfl) hQ rfl (by simp [hwr, hq6, encP, hbig, hb47, hco, hk3]) (by simp) (.inl ⟨_, rfl, rfl⟩) (by kernel_rfl) (by kernel_rfl) (by kernel_rfl) ?_
           refine ANY_take 5 (by rfl) hQ rfl (by simp [hwr, hq6, encP, hbig, hb47, hco, hk3]) (by simp) (.inl ⟨_, rfl, rfl⟩) (by kernel_rfl) (by kernel_rfl) (by kernel_rfl) ?_
           refine ANY_ready [6] (by kernel_rfl) (by simp) ?_
           refine AnyAll.cons rfl (fun Ka2 hKa2 => ?_) ?_
           ·
            simp [hwr, hq6, encP, hbig, hb47, hco, hk3]
            repeat refine sg ?_
            refine hKa2 _ ?_
            clear hKa2 Ka2
            refine ANY_ready [7] (by kernel_rfl) (by simp) ?_
            refine AnyAll.cons rfl (fun Ka3 hKa3 => ?_) ?_
            ·
             simp [hwr, hq6, encP, hbig, hb47, hco, hk3]
             repeat refine sg ?_
             refine hKa3 _ ?_
             clear hKa3 Ka3
             refine ANY_take 8 (by rfl) hQ rfl rfl (by simp) (.inl ⟨_, rfl, rfl⟩) (by kernel_rfl) (by kernel_rfl) (by kernel_rfl) ?_
             refine ANY_take 9 (by rfl) hQ rfl (by simp [hwr, hq6, encP, hbig, hb47, hco, hk3]) (by simp) (.inl ⟨_, rfl, rfl⟩) (by kernel_rfl) (by kernel_rfl) (by kernel_rfl) ?_
             refine ANY_take 11 (by rfl) hQ rfl (by simp [hwr, hq6, encP, hbig, hb47, hco, hk3]) (by simp) (.inr ⟨_, _, _, _, _, _, rfl, rfl, Pt.foff_55_2, rfl⟩) (by kernel_rfl) (by kernel_rfl) (by kernel_rfl) ?_
             refine ANY_ready [10, 12] (by kernel_rfl) (by simp) ?_
             refine AnyAll.cons rfl (fun Ka4 hKa4 => ?_) ?_
             ·
              simp [hwr, hq6, encP, hbig, hb47, hco, hk3]
              repeat refine sg ?_
              refine RVn_callC ((by have h := c_read_Cursor_Failed g b cur.name (by omega); rw [hr1.err] at h; exact h)) rfl ?_
              simp [hwr, hq6, encP, hbig, hb47, hco, hk3]
              repeat refine sg ?_
              refine hKa4 _ ?_
              clear hKa4 Ka4
              refine ANY_ready [12] (by kernel_rfl) (by simp) ?_
              refine AnyAll.cons rfl (fun Ka5 hKa5 => ?_) ?_
              ·
               simp [hwr, hq6, encP, hbig, hb47, hco, hk3]
               repeat refine sg ?_
               refine hKa5 _ ?_
               clear hKa5 Ka5
               refine ANY_ready [13] (by kernel_rfl) (by simp) ?_
               refine AnyAll.cons rfl (fun Ka6 hKa6 => ?_) ?_
               ·
                simp [hwr, hq6, encP, hbig, hb47, hco, hk3]
                repeat refine sg ?_
                refine hKa6 _ ?_
                clear hKa6 Ka6
                refine ANY_ready [14] (by kernel_rfl) (by simp) ?_
                refine AnyAll.cons rfl (fun Ka7 hKa7 => ?_) ?_
                ·
                 simp [hwr, hq6, encP, hbig, hb47, hco, hk3]
                 repeat refine sg ?_
                 refine hKa7 _ ?_
                 clear hKa7 Ka7
                 refine ANY_take 15 (by rfl) hQ rfl rfl (by simp) (.inl ⟨_, rfl, rfl⟩) (by kernel_rfl) (by kernel_rfl) (by kernel_rfl) ?_
                 refine ANY_take 16 (by rfl) hQ rfl (by simp [hwr, hq6, encP, hbig, hb47, hco, hk3]) (by simp) (.inl ⟨_, rfl, rfl⟩) (by kernel_rfl) (by kernel_rfl) (by kernel_rfl) ?_
                 refine ANY_take 18 (by rfl) hQ rfl (by simp [hwr, hq6, encP, hbig, hb47, hco, hk3]) (by simp) (.inl ⟨_, rfl, rfl⟩) (by kernel_rfl) (by kernel_rfl) (by kernel_rfl) ?_
                 refine ANY_ready [17] (by kernel_rfl) (by simp) ?_
                 refine AnyAll.cons rfl (fun Ka8 hKa8 => ?_) ?_
                 ·
                  simp [hwr, hq6, encP, hbig, hb47, hco, hk3]
                  repeat refine sg ?_
                  refine RVn_callC ((by have h := c_read_Cursor_Next g [44] b cur.name (by omega); rw [hr1.next] at h; exact h)) rfl ?_
                  simp [hwr, hq6, encP, hbig, hb47, hco, hk3]
                  repeat refine sg ?_
                  refine hKa8 _ ?_
                  clear hKa8 Ka8
                  refine ANY_ready [19] (by kernel_rfl) (by simp) ?_
                  refine AnyAll.cons rfl (fun Ka9 hKa9 => ?_) ?_
                  ·
                   simp [hwr, hq6, encP, hbig, hb47, hco, hk3]
                   repeat refine sg ?_
                   refine hKa9 _ ?_
                   clear hKa9 Ka9
                   refine ANY_ready [20] (by kernel_rfl) (by simp) ?_
                   refine AnyAll.cons rfl (fun Ka10 hKa10 => ?_) ?_
                   ·
                    simp [hwr, hq6, encP, hbig, hb47, hco, hk3]
                    repeat refine sg ?_
                    refine hKa10 _ ?_
                    clear hKa10 Ka10
                    refine ANY_take 21 (by rfl) hQ rfl rfl (by simp) (.inl ⟨_, rfl, rfl⟩) (by kernel_rfl) (by kernel_rfl) (by kernel_rfl) ?_
                    refine ANY_take 22 (by rfl) hQ rfl (by simp [hwr, hq6, encP, hbig, hb47, hco, hk3]) (by simp) (.inl ⟨_, rfl, rfl⟩) (by kernel_rfl) (by kernel_rfl) (by kernel_rfl) ?_
                    refine ANY_ready [23] (by kernel_rfl) (by simp) ?_
                    refine AnyAll.cons rfl (fun Ka11 hKa11 => ?_) ?_
                    ·
                     simp [hwr, hq6, encP, hbig, hb47, hco, hk3]
                     repeat refine sg ?_
                     refine hKa11 _ ?_
                     clear hKa11 Ka11
                     refine ANY_ready [24] (by kernel_rfl) (by simp) ?_
                     refine AnyAll.cons rfl (fun Ka12 hKa12 => ?_) ?_
                     ·
                      simp [hwr, hq6, encP, hbig, hb47, hco, hk3]
                      repeat refine sg ?_
                      refine hKa12 _ ?_
                      clear hKa12 Ka12
                      refine ANY_take 25 (by rfl) hQ rfl (by simp [hwr, hq6, encP, hbig, hb47, hco, hk3]) (by simp) (.inl ⟨_, rfl, rfl⟩) (by kernel_rfl) (by kernel_rfl) (by kernel_rfl) ?_
                      refine ANY_take 26 (by rfl) hQ rfl (by simp [hwr, hq6, encP, hbig, hb47, hco, hk3]) (by simp) (.inl ⟨_, rfl, rfl⟩) (by kernel_rfl) (by kernel_rfl) (by kernel_rfl) ?_
                      refine ANY_take 28 (by rfl) hQ rfl (by simp [hwr, hq6, encP, hbig, hb47, hco, hk3]) (by simp) (.inl ⟨_, rfl, rfl⟩) (by kernel_rfl) (by kernel_rfl) (by kernel_rfl) ?_
                      refine ANY_ready [27] (by kernel_rfl) (by simp) ?_
                      refine AnyAll.cons rfl (fun Ka13 hKa13 => ?_) ?_
                      ·
                       simp [hwr, hq6, encP, hbig, hb47, hco, hk3]
                       repeat refine sg ?_
                       refine RVn_callC ((by have h := c_read_Cursor_Take g [44] b cur.name (by omega); rw [hr1.next] at h; exact h)) rfl ?_
                       simp [hwr, hq6, encP, hbig, hb47, hco, hk3]
                       repeat refine sg ?_
                       refine hKa13 _ ?_
                       clear hKa13 Ka13
                       refine ANY_ready [29] (by kernel_rfl) (by simp) ?_
                       refine AnyAll.cons rfl (fun Ka14 hKa14 => ?_) ?_
                       ·
                        simp [hwr, hq6, encP, hbig, hb47, hco, hk3]
                        repeat refine sg ?_
                        refine hKa14 _ ?_
                        clear hKa14 Ka14
                        refine ANY_ready [30] (by kernel_rfl) (by simp) ?_
                        refine AnyAll.cons rfl (fun Ka15 hKa15 => ?_) ?_
                        ·
                         simp [hwr, hq6, encP, hbig, hb47, hco, hk3]
                         repeat refine sg ?_
                         refine hKa15 _ ?_
                         clear hKa15 Ka15
                         refine ANY_ready [31] (by kernel_rfl) (by simp) ?_
                         refine AnyAll.cons rfl (fun Ka16 hKa16 => ?_) ?_
                         ·
                          simp [hwr, hq6, encP, hbig, hb47, hco, hk3]
                          repeat refine sg ?_
                          refine hKa16 _ ?_
                          clear hKa16 Ka16
                          refine ANY_done (by kernel_rfl) ?_
                          refine hK _ (by first | rfl | simp) ?_
                          simp [encP, Cur.take, hr1.next, hco]
                         exact AnyAll.nil
                        exact AnyAll.nil
                       exact AnyAll.nil
                      exact AnyAll.nil
                     exact AnyAll.nil
                    exact AnyAll.nil
                   exact AnyAll.nil
                  exact AnyAll.nil
                 exact AnyAll.nil
                exact AnyAll.nil
               exact AnyAll.nil
              exact AnyAll.nil
             refine AnyAll.cons rfl (fun Ka17 hKa17 => ?_) ?_
             ·
              simp [hwr, hq6, encP, hbig, hb47, hco, hk3]
              repeat refine sg ?_
              refine hKa17 _ ?_
              clear hKa17 Ka17
              refine ANY_ready [10] (by kernel_rfl) (by simp) ?_
              refine AnyAll.cons rfl (fun Ka18 hKa18 => ?_) ?_
              ·
               simp [hwr, hq6, encP, hbig, hb47, hco, hk3]
               repeat refine sg ?_
               refine RVn_callC ((by have h := c_read_Cursor_Failed g b cur.name (by omega); rw [hr1.err] at h; exact h)) rfl ?_
               simp [hwr, hq6, encP, hbig, hb47, hco, hk3]
               repeat refine sg ?_
               refine hKa18 _ ?_
               clear hKa18 Ka18
               refine ANY_ready [13] (by kernel_rfl) (by simp) ?_
               refine AnyAll.cons rfl (fun Ka19 hKa19 => ?_) ?_
               ·
                simp [hwr, hq6, encP, hbig, hb47, hco, hk3]
                repeat refine sg ?_
                refine hKa19 _ ?_
                clear hKa19 Ka19
                refine ANY_ready [14] (by kernel_rfl) (by simp) ?_
                refine AnyAll.cons rfl (fun Ka20 hKa20 => ?_) ?_
                ·
                 simp [hwr, hq6, encP, hbig, hb47, hco, hk3]
                 repeat refine sg ?_
                 refine hKa20 _ ?_
                 clear hKa20 Ka20
                 refine ANY_take 15 (by rfl) hQ rfl rfl (by simp) (.inl ⟨_, rfl, rfl⟩) (by kernel_rfl) (by kernel_rfl) (by kernel_rfl) ?_
                 refine ANY_take 16 (by rfl) hQ rfl (by simp [hwr, hq6, encP, hbig, hb47, hco, hk3]) (by simp) (.inl ⟨_, rfl, rfl⟩) (by kernel_rfl) (by kernel_rfl) (by kernel_rfl) ?_
                 refine ANY_take 18 (by rfl) hQ rfl (by simp [hwr, hq6, encP, hbig, hb47, hco, hk3]) (by simp) (.inl ⟨_, rfl, rfl⟩) (by kernel_rfl) (by kernel_rfl) (by kernel_rfl) ?_
                 refine ANY_ready [17] (by kernel_rfl) (by simp) ?_
                 refine AnyAll.cons rfl (fun Ka21 hKa21 => ?_) ?_
                 ·
                  simp [hwr, hq6, encP, hbig, hb47, hco, hk3]
                  repeat refine sg ?_
                  refine RVn_callC ((by have h := c_read_Cursor_Next g [44] b cur.name (by omega); rw [hr1.next] at h; exact h)) rfl ?_
                  simp [hwr, hq6, encP, hbig, hb47, hco, hk3]
                  repeat refine sg ?_
                  refine hKa21 _ ?_
                  clear hKa21 Ka21
                  refine ANY_ready [19] (by kernel_rfl) (by simp) ?_
                  refine AnyAll.cons rfl (fun Ka22 hKa22 => ?_) ?_
                  ·
                   simp [hwr, hq6, encP, hbig, hb47, hco, hk3]
                   repeat refine sg ?_
                   refine hKa22 _ ?_
                   clear hKa22 Ka22
                   refine ANY_ready [20] (by kernel_rfl) (by simp) ?_
                   refine AnyAll.cons rfl (fun Ka23 hKa23 => ?_) ?_
                   ·
                    simp [hwr, hq6, encP, hbig, hb47, hco, hk3]
                    repeat refine sg ?_
                    refine hKa23 _ ?_
                    clear hKa23 Ka23
                    refine ANY_take 21 (by rfl) hQ rfl rfl (by simp) (.inl ⟨_, rfl, rfl⟩) (by kernel_rfl) (by kernel_rfl) (by kernel_rfl) ?_
                    refine ANY_take 22 (by rfl) hQ rfl (by simp [hwr, hq6, encP, hbig, hb47, hco, hk3]) (by simp) (.inl ⟨_, rfl, rfl⟩) (by kernel_rfl) (by kernel_rfl) (by kernel_rfl) ?_
                    refine ANY_ready [23] (by kernel_rfl) (by simp) ?_
                    refine AnyAll.cons rfl (fun Ka24 hKa24 => ?_) ?_
                    ·
                     simp [hwr, hq6, encP, hbig, hb47, hco, hk3]
                     repeat refine sg ?_
                     refine hKa24 _ ?_
                     clear hKa24 Ka24
                     refine ANY_ready [24] (by kernel_rfl) (by simp) ?_
                     refine AnyAll.cons rfl (fun Ka25 hKa25 => ?_) ?_
                     ·
                      simp [hwr, hq6, encP, hbig, hb47, hco, hk3]
                      repeat refine sg ?_
                      refine hKa25 _ ?_
                      clear hKa25 Ka25
                      refine ANY_take 25 (by rfl) hQ rfl (by simp [hwr, hq6, encP, hbig, hb47, hco, hk3]) (by simp) (.inl ⟨_, rfl, rfl⟩) (by kernel_rfl) (by kernel_rfl) (by kernel_rfl) ?_
                      refine ANY_take 26 (by rfl) hQ rfl (by simp [hwr, hq6, encP, hbig, hb47, hco, hk3]) (by simp) (.inl ⟨_, rfl, rfl⟩) (by kernel_rfl) (by kernel_rfl) (by kernel_rfl) ?_
                      refine ANY_take 28 (by rfl) hQ rfl (by simp [hwr, hq6, encP, hbig, hb47, hco, hk3]) (by simp) (.inl ⟨_, rfl, rfl⟩) (by kernel_rfl) (by kernel_rfl) (by kernel_rfl) ?_
                      refine ANY_ready [27] (by kernel_rfl) (by simp) ?_
                      refine AnyAll.cons rfl (fun Ka26 hKa26 => ?_) ?_
                      ·
                       simp [hwr, hq6, encP, hbig, hb47, hco, hk3]
                       repeat refine sg ?_
                       refine RVn_callC ((by have h := c_read_Cursor_Take g [44] b cur.name (by omega); rw [hr1.next] at h; exact h)) rfl ?_
                       simp [hwr, hq6, encP, hbig, hb47, hco, hk3]
                       repeat refine sg ?_
                       refine hKa26 _ ?_
                       clear hKa26 Ka26
                       refine ANY_ready [29] (by kernel_rfl) (by simp) ?_
                       refine AnyAll.cons rfl (fun Ka27 hKa27 => ?_) ?_
                       ·
                        simp [hwr, hq6, encP, hbig, hb47, hco, hk3]
                        repeat refine sg ?_
                        refine hKa27 _ ?_
                        clear hKa27 Ka27
                        refine ANY_ready [30] (by kernel_rfl) (by simp) ?_
                        refine AnyAll.cons rfl (fun Ka28 hKa28 => ?_) ?_
                        ·
                         simp [hwr, hq6, encP, hbig, hb47, hco, hk3]
                         repeat refine sg ?_
                         refine hKa28 _ ?_
                         clear hKa28 Ka28
                         refine ANY_ready [31] (by kernel_rfl) (by simp) ?_
                         refine AnyAll.cons rfl (fun Ka29 hKa29 => ?_) ?_
                         ·
                          simp [hwr, hq6, encP, hbig, hb47, hco, hk3]
                          repeat refine sg ?_
                          refine hKa29 _ ?_
                          clear hKa29 Ka29
                          refine ANY_done (by kernel_rfl) ?_
                          refine hK _ (by first | rfl | simp) ?_
                          simp [encP, Cur.take, hr1.next, hco]
                         exact AnyAll.nil
                        exact AnyAll.nil
                       exact AnyAll.nil
                      exact AnyAll.nil
                     exact AnyAll.nil
                    exact AnyAll.nil
                   exact AnyAll.nil
                  exact AnyAll.nil
                 exact AnyAll.nil
                exact AnyAll.nil
               exact AnyAll.nil
              exact AnyAll.nil
             exact AnyAll.nil
            exact AnyAll.nil
           exact AnyAll.nil
          exact AnyAll.nil
         rintro _ rfl
         refine AT_cond (b := false) (g := none) (by simp [hbig, hb47, hco, hk3]) (fun hb => ?_) (fun hb => ?_)
         ·
          cases hb
         ·
          clear hb
          refine AT_skip ?_
          try simp only [nrm, reduceIte, Nat.reduceEqDiff]
          refine hK28 _ ?_
          refine AT_seq_k fun K29 hK29 => ?_
          refine AT_seq_region fun K30 hK30 => ?_
          simp [hwr, hq6, hbig, hb47, hco, hk3]
          repeat refine sg ?_
          refine hK30 _ ?_
          clear hK30 K30
          refine AT_cond (b := false) (g := none) (by simp [hbig, hb47, hco, hk3]) (fun hb => ?_) (fun hb => ?_)
          ·
           cases hb
          ·
           clear hb
           refine AT_skip ?_
           try simp only [nrm, reduceIte, Nat.reduceEqDiff]
           refine hK29 _ ?_
           refine AT_seq_region fun K31 hK31 => ?_
           simp [hwr, hq6, hbig, hb47, hco, hk3]
           repeat refine sg ?_
           refine hK31 _ ?_
           clear hK31 K31
           refine AT_cond (b := false) (g := none) (by simp [hbig, hb47, hco, hk3]) (fun hb => ?_) (fun hb => ?_)
           ·
            cases hb
           ·
            clear hb
            refine AT_skip ?_
            try simp only [nrm, reduceIte, Nat.reduceEqDiff]
            refine hK22 _ ?_
            refine AT_region_q fun K32 hK32 => ?_
            simp [hwr, hq6, hbig, hb47, hco, hk3]
            repeat refine sg ?_
            refine hK32 _ ?_
            clear hK32 K32
            try simp only [nrm, reduceIte, Nat.reduceEqDiff]
            refine hK19 _ (by first | rfl | simp) (q6 - (k + 1)) (by omega) ?_
            first
            | (refine ⟨k + 1, cur.name.adv, (p.name L).adv, hr1.adv hE hco, by omega, by omega, ?_⟩; simp [encP, Pl.adv, Cur.take, Cur.must, hr1.next, hco]; done)
            | (refine ⟨k + 1, cur.name, p.name L, hr1, by omega, by omega, ?_⟩; simp [encP, Cur.take, hr1.next, hco]; done)
        ·
         have hk3 := tm2b hk2
         refine AT_seq_region fun K33 hK33 => ?_
         simp [hwr, hq6, hbig, hb47, hco, hk3]
         repeat refine sg ?_
         refine RVn_call ((by have h := c_ref07x_Is g L (by omega) (p.name L) hr1.lt [44]; simp only [encP] at h; exact h)) ?_
         simp [hwr, hq6, hbig, hb47, hco, hk3]
         repeat refine sg ?_
         refine hK33 _ ?_
         clear hK33 K33
         refine AT_seq_k fun K34 hK34 => ?_
         refine AT_seq_any [0, 1, 8, 9, 10, 15, 94] [9] (fun z9 => z9 = { n := 118, tm := [(0, .v (.str s) none), (1, .v (.int .u8 m) none), (8, .v (.gp b 0) none), (9, .lp 9 0), (10, .v (.int .i64 k) none), (15, .v (.bool false) none), (94, .v (.bool false) none)], bx := [(9, encP L (p.name L))], tb := [], sh := [(b, encC 110 cur.name)], hint := [] }) Pt.mixed (fun K hK hQ => ?_) ?_
         ·
          refine ANY_take 0 (by rfl) hQ rfl rfl (by simp) (.inl ⟨_, rfl, rfl⟩) (by kernel_rfl) (by kernel_rfl) (by kernel_rfl) ?_
          refine ANY_take 1 (by rfl) hQ rfl rfl (by simp) (.inl ⟨_, rfl, rfl⟩) (by kernel_rfl) (by kernel_rfl) (by kernel_rfl) ?_
          refine ANY_ready [2] (by kernel_rfl) (by simp) ?_
          refine AnyAll.cons rfl (fun Ka1 hKa1 => ?_) ?_
          ·
           simp [hwr, hq6, encP, hbig, hb47, hco, hk3]
           repeat refine sg ?_
           refine hKa1 _ ?_
           clear hKa1 Ka1
           refine ANY_take 3 (by rfl) hQ rfl rfl (by simp) (.inl ⟨_, rfl, rfl⟩) (by kernel_rfl) (by kernel_rfl) (by kernel_rfl) ?_
           refine ANY_take 4 (by rfl) hQ rfl (by simp [hwr, hq6, encP, hbig, hb47, hco, hk3]) (by simp) (.inl ⟨_, rfl, rfl⟩) (by kernel_rfl) (by kernel_rfl) (by kernel_rfl) ?_
           refine ANY_take 5 (by rfl) hQ rfl (by simp [hwr, hq6, encP, hbig, hb47, hco, hk3]) (by simp) (.inl ⟨_, rfl, rfl⟩) (by kernel_rfl) (by kernel_rfl) (by kernel_rfl) ?_
           refine ANY_ready [6] (by kernel_rfl) (by simp) ?_
           refine AnyAll.cons rfl (fun Ka2 hKa2 => ?_) ?_
           ·
            simp [hwr, hq6, encP, hbig, hb47, hco, hk3]
            repeat refine sg ?_
            refine hKa2 _ ?_
            clear hKa2 Ka2
            refine ANY_ready [7] (by kernel_rfl) (by simp) ?_
            refine AnyAll.cons rfl (fun Ka3 hKa3 => ?_) ?_
            ·
             simp [hwr, hq6, encP, hbig, hb47, hco, hk3]
             repeat refine sg ?_
             refine hKa3 _ ?_
             clear hKa3 Ka3
             refine ANY_take 8 (by rfl) hQ rfl rfl (by simp) (.inl ⟨_, rfl, rfl⟩) (by kernel_rfl) (by kernel_rfl) (by kernel_rfl) ?_
             refine ANY_take 9 (by rfl) hQ rfl (by simp [hwr, hq6, encP, hbig, hb47, hco, hk3]) (by simp) (.inl ⟨_, rfl, rfl⟩) (by kernel_rfl) (by kernel_rfl) (by kernel_rfl) ?_
             refine ANY_take 11 (by rfl) hQ rfl (by simp [hwr, hq6, encP, hbig, hb47, hco, hk3]) (by simp) (.inr ⟨_, _, _, _, _, _, rfl, rfl, Pt.foff_55_2, rfl⟩) (by kernel_rfl) (by kernel_rfl) (by kernel_rfl) ?_
             refine ANY_ready [10, 12] (by kernel_rfl) (by simp) ?_
             refine AnyAll.cons rfl (fun Ka4 hKa4 => ?_) ?_
             ·
              simp [hwr, hq6, encP, hbig, hb47, hco, hk3]
              repeat refine sg ?_
              refine RVn_callC ((by have h := c_read_Cursor_Failed g b cur.name (by omega); rw [hr1.err] at h; exact h)) rfl ?_
              simp [hwr, hq6, encP, hbig, hb47, hco, hk3]
              repeat refine sg ?_
              refine hKa4 _ ?_
              clear hKa4 Ka4
              refine ANY_ready [12] (by kernel_rfl) (by simp) ?_
              refine AnyAll.cons rfl (fun Ka5 hKa5 => ?_) ?_
              ·
               simp [hwr, hq6, encP, hbig, hb47, hco, hk3]
               repeat refine sg ?_
               refine hKa5 _ ?_
               clear hKa5 Ka5
               refine ANY_ready [13] (by kernel_rfl) (by simp) ?_
               refine AnyAll.cons rfl (fun Ka6 hKa6 => ?_) ?_
               ·
                simp [hwr, hq6, encP, hbig, hb47, hco, hk3]
                repeat refine sg ?_
                refine hKa6 _ ?_
                clear hKa6 Ka6
                refine ANY_ready [14] (by kernel_rfl) (by simp) ?_
                refine AnyAll.cons rfl (fun Ka7 hKa7 => ?_) ?_
                ·
                 simp [hwr, hq6, encP, hbig, hb47, hco, hk3]
                 repeat refine sg ?_
                 refine hKa7 _ ?_
                 clear hKa7 Ka7
                 refine ANY_take 15 (by rfl) hQ rfl rfl (by simp) (.inl ⟨_, rfl, rfl⟩) (by kernel_rfl) (by kernel_rfl) (by kernel_rfl) ?_
                 refine ANY_take 16 (by rfl) hQ rfl (by simp [hwr, hq6, encP, hbig, hb47, hco, hk3]) (by simp) (.inl ⟨_, rfl, rfl⟩) (by kernel_rfl) (by kernel_rfl) (by kernel_rfl) ?_
                 refine ANY_take 18 (by rfl) hQ rfl (by simp [hwr, hq6, encP, hbig, hb47, hco, hk3]) (by simp) (.inl ⟨_, rfl, rfl⟩) (by kernel_rfl) (by kernel_rfl) (by kernel_rfl) ?_
                 refine ANY_ready [17] (by kernel_rfl) (by simp) ?_
                 refine AnyAll.cons rfl (fun Ka8 hKa8 => ?_) ?_
                 ·
                  simp [hwr, hq6, encP, hbig, hb47, hco, hk3]
                  repeat refine sg ?_
                  refine RVn_callC ((by have h := c_read_Cursor_Next g [44] b cur.name (by omega); rw [hr1.next] at h; exact h)) rfl ?_
                  simp [hwr, hq6, encP, hbig, hb47, hco, hk3]
                  repeat refine sg ?_
                  refine hKa8 _ ?_
                  clear hKa8 Ka8
                  refine ANY_ready [19] (by kernel_rfl) (by simp) ?_
                  refine AnyAll.cons rfl (fun Ka9 hKa9 => ?_) ?_
                  ·
                   simp [hwr, hq6, encP, hbig, hb47, hco, hk3]
                   repeat refine sg ?_
                   refine hKa9 _ ?_
                   clear hKa9 Ka9
                   refine ANY_ready [20] (by kernel_rfl) (by simp) ?_
                   refine AnyAll.cons rfl (fun Ka10 hKa10 => ?_) ?_
                   ·
                    simp [hwr, hq6, encP, hbig, hb47, hco, hk3]
                    repeat refine sg ?_
                    refine hKa10 _ ?_
                    clear hKa10 Ka10
                    refine ANY_take 21 (by rfl) hQ rfl rfl (by simp) (.inl ⟨_, rfl, rfl⟩) (by kernel_rfl) (by kernel_rfl) (by kernel_rfl) ?_
                    refine ANY_take 22 (by rfl) hQ rfl (by simp [hwr, hq6, encP, hbig, hb47, hco, hk3]) (by simp) (.inl ⟨_, rfl, rfl⟩) (by kernel_rfl) (by kernel_rfl) (by kernel_rfl) ?_
                    refine ANY_ready [23] (by kernel_rfl) (by simp) ?_
                    refine AnyAll.cons rfl (fun Ka11 hKa11 => ?_) ?_
                    ·
                     simp [hwr, hq6, encP, hbig, hb47, hco, hk3]
                     repeat refine sg ?_
                     refine hKa11 _ ?_
                     clear hKa11 Ka11
                     refine ANY_ready [24] (by kernel_rfl) (by simp) ?_
                     refine AnyAll.cons rfl (fun Ka12 hKa12 => ?_) ?_
                     ·
                      simp [hwr, hq6, encP, hbig, hb47, hco, hk3]
                      repeat refine sg ?_
                      refine hKa12 _ ?_
                      clear hKa12 Ka12
                      refine ANY_take 25 (by rfl) hQ rfl (by simp [hwr, hq6, encP, hbig, hb47, hco, hk3]) (by simp) (.inl ⟨_, rfl, rfl⟩) (by kernel_rfl) (by kernel_rfl) (by kernel_rfl) ?_
                      refine ANY_skip 26 (by rfl) hQ rfl (by simp [hwr, hq6, encP, hbig, hb47, hco, hk3]) (by simp) (by rfl) (by kernel_rfl) (by kernel_rfl) (by kernel_rfl) ?_
                      refine ANY_skip 28 (by rfl) hQ rfl (by simp [hwr, hq6, encP, hbig, hb47, hco, hk3]) (by simp) (by rfl) (by kernel_rfl) (by kernel_rfl) (by kernel_rfl) ?_
                      refine ANY_ready [27] (by kernel_rfl) (by simp) ?_
                      refine AnyAll.cons rfl (fun Ka13 hKa13 => ?_) ?_
                      ·
                       simp [hwr, hq6, encP, hbig, hb47, hco, hk3]
                       repeat refine sg ?_
                       refine hKa13 _ ?_
                       clear hKa13 Ka13
                       refine ANY_skip 29 (by rfl) hQ rfl (by simp [hwr, hq6, encP, hbig, hb47, hco, hk3]) (by simp) (by rfl) (by kernel_rfl) (by kernel_rfl) (by kernel_rfl) ?_
                       refine ANY_ready [30] (by kernel_rfl) (by simp) ?_
                       refine AnyAll.cons rfl (fun Ka14 hKa14 => ?_) ?_
                       ·
                        simp [hwr, hq6, encP, hbig, hb47, hco, hk3]
                        repeat refine sg ?_
                        refine hKa14 _ ?_
                        clear hKa14 Ka14
                        refine ANY_ready [31] (by kernel_rfl) (by simp) ?_
                        refine AnyAll.cons rfl (fun Ka15 hKa15 => ?_) ?_
                        ·
                         simp [hwr, hq6, encP, hbig, hb47, hco, hk3]
                         repeat refine sg ?_
                         refine hKa15 _ ?_
                         clear hKa15 Ka15
                         refine ANY_done (by kernel_rfl) ?_
                         refine hK _ (by first | rfl | simp) ?_
                         simp [encP, Cur.take, hr1.next, hco]
                        exact AnyAll.nil
                       exact AnyAll.nil
                      exact AnyAll.nil
                     exact AnyAll.nil
                    exact AnyAll.nil
                   exact AnyAll.nil
                  exact AnyAll.nil
                 exact AnyAll.nil
                exact AnyAll.nil
               exact AnyAll.nil
              exact AnyAll.nil
             refine AnyAll.cons rfl (fun Ka16 hKa16 => ?_) ?_
             ·
              simp [hwr, hq6, encP, hbig, hb47, hco, hk3]
              repeat refine sg ?_
              refine hKa16 _ ?_
              clear hKa16 Ka16
              refine ANY_ready [10] (by kernel_rfl) (by simp) ?_
              refine AnyAll.cons rfl (fun Ka17 hKa17 => ?_) ?_
              ·
               simp [hwr, hq6, encP, hbig, hb47, hco, hk3]
               repeat refine sg ?_
               refine RVn_callC ((by have h := c_read_Cursor_Failed g b cur.name (by omega); rw [hr1.err] at h; exact h)) rfl ?_
               simp [hwr, hq6, encP, hbig, hb47, hco, hk3]
               repeat refine sg ?_
               refine hKa17 _ ?_
               clear hKa17 Ka17
               refine ANY_ready [13] (by kernel_rfl) (by simp) ?_
               refine AnyAll.cons rfl (fun Ka18 hKa18 => ?_) ?_
               ·
                simp [hwr, hq6, encP, hbig, hb47, hco, hk3]
                repeat refine sg ?_
                refine hKa18 _ ?_
                clear hKa18 Ka18
                refine ANY_ready [14] (by kernel_rfl) (by simp) ?_
                refine AnyAll.cons rfl (fun Ka19 hKa19 => ?_) ?_
                ·
                 simp [hwr, hq6, encP, hbig, hb47, hco, hk3]
                 repeat refine sg ?_
                 refine hKa19 _ ?_
                 clear hKa19 Ka19
                 refine ANY_take 15 (by rfl) hQ rfl rfl (by simp) (.inl ⟨_, rfl, rfl⟩) (by kernel_rfl) (by kernel_rfl) (by kernel_rfl) ?_
                 refine ANY_take 16 (by rfl) hQ rfl (by simp [hwr, hq6, encP, hbig, hb47, hco, hk3]) (by simp) (.inl ⟨_, rfl, rfl⟩) (by kernel_rfl) (by kernel_rfl) (by kernel_rfl) ?_
                 refine ANY_take 18 (by rfl) hQ rfl (by simp [hwr, hq6, encP, hbig, hb47, hco, hk3]) (by simp) (.inl ⟨_, rfl, rfl⟩) (by kernel_rfl) (by kernel_rfl) (by kernel_rfl) ?_
                 refine ANY_ready [17] (by kernel_rfl) (by simp) ?_
                 refine AnyAll.cons rfl (fun Ka20 hKa20 => ?_) ?_
                 ·
                  simp [hwr, hq6, encP, hbig, hb47, hco, hk3]
                  repeat refine sg ?_
                  refine RVn_callC ((by have h := c_read_Cursor_Next g [44] b cur.name (by omega); rw [hr1.next] at h; exact h)) rfl ?_
                  simp [hwr, hq6, encP, hbig, hb47, hco, hk3]
                  repeat refine sg ?_
                  refine hKa20 _ ?_
                  clear hKa20 Ka20
                  refine ANY_ready [19] (by kernel_rfl) (by simp) ?_
                  refine AnyAll.cons rfl (fun Ka21 hKa21 => ?_) ?_
                  ·
                   simp [hwr, hq6, encP, hbig, hb47, hco, hk3]
                   repeat refine sg ?_
                   refine hKa21 _ ?_
                   clear hKa21 Ka21
                   refine ANY_ready [20] (by kernel_rfl) (by simp) ?_
                   refine AnyAll.cons rfl (fun Ka22 hKa22 => ?_) ?_
                   ·
                    simp [hwr, hq6, encP, hbig, hb47, hco, hk3]
                    repeat refine sg ?_
                    refine hKa22 _ ?_
                    clear hKa22 Ka22
                    refine ANY_take 21 (by rfl) hQ rfl rfl (by simp) (.inl ⟨_, rfl, rfl⟩) (by kernel_rfl) (by kernel_rfl) (by kernel_rfl) ?_
                    refine ANY_take 22 (by rfl) hQ rfl (by simp [hwr, hq6, encP, hbig, hb47, hco, hk3]) (by simp) (.inl ⟨_, rfl, rfl⟩) (by kernel_rfl) (by kernel_rfl) (by kernel_rfl) ?_
                    refine ANY_ready [23] (by kernel_rfl) (by simp) ?_
                    refine AnyAll.cons rfl (fun Ka23 hKa23 => ?_) ?_
                    ·
                     simp [hwr, hq6, encP, hbig, hb47, hco, hk3]
                     repeat refine sg ?_
                     refine hKa23 _ ?_
                     clear hKa23 Ka23
                     refine ANY_ready [24] (by kernel_rfl) (by simp) ?_
                     refine AnyAll.cons rfl (fun Ka24 hKa24 => ?_) ?_
                     ·
                      simp [hwr, hq6, encP, hbig, hb47, hco, hk3]
                      repeat refine sg ?_
                      refine hKa24 _ ?_
                      clear hKa24 Ka24
                      refine ANY_take 25 (by rfl) hQ rfl (by simp [hwr, hq6, encP, hbig, hb47, hco, hk3]) (by simp) (.inl ⟨_, rfl, rfl⟩) (by kernel_rfl) (by kernel_rfl) (by kernel_rfl) ?_
                      refine ANY_skip 26 (by rfl) hQ rfl (by simp [hwr, hq6, encP, hbig, hb47, hco, hk3]) (by simp) (by rfl) (by kernel_rfl) (by kernel_rfl) (by kernel_rfl) ?_
                      refine ANY_skip 28 (by rfl) hQ rfl (by simp [hwr, hq6, encP, hbig, hb47, hco, hk3]) (by simp) (by rfl) (by kernel_rfl) (by kernel_rfl) (by kernel_rfl) ?_
                      refine ANY_ready [27] (by kernel_rfl) (by simp) ?_
                      refine AnyAll.cons rfl (fun Ka25 hKa25 => ?_) ?_
                      ·
                       simp [hwr, hq6, encP, hbig, hb47, hco, hk3]
                       repeat refine sg ?_
                       refine hKa25 _ ?_
                       clear hKa25 Ka25
                       refine ANY_skip 29 (by rfl) hQ rfl (by simp [hwr, hq6, encP, hbig, hb47, hco, hk3]) (by simp) (by rfl) (by kernel_rfl) (by kernel_rfl) (by kernel_rfl) ?_
                       refine ANY_ready [30] (by kernel_rfl) (by simp) ?_
                       refine AnyAll.cons rfl (fun Ka26 hKa26 => ?_) ?_
                       ·
                        simp [hwr, hq6, encP, hbig, hb47, hco, hk3]
                        repeat refine sg ?_
                        refine hKa26 _ ?_
                        clear hKa26 Ka26
                        refine ANY_ready [31] (by kernel_rfl) (by simp) ?_
                        refine AnyAll.cons rfl (fun Ka27 hKa27 => ?_) ?_
                        ·
                         simp [hwr, hq6, encP, hbig, hb47, hco, hk3]
                         repeat refine sg ?_
                         refine hKa27 _ ?_
                         clear hKa27 Ka27
                         refine ANY_done (by kernel_rfl) ?_
                         refine hK _ (by first | rfl | simp) ?_
                         simp [encP, Cur.take, hr1.next, hco]
                        exact AnyAll.nil
                       exact AnyAll.nil
                      exact AnyAll.nil
                     exact AnyAll.nil
                    exact AnyAll.nil
                   exact AnyAll.nil
                  exact AnyAll.nil
                 exact AnyAll.nil
                exact AnyAll.nil
               exact AnyAll.nil
              exact AnyAll.nil
             exact AnyAll.nil
            exact AnyAll.nil
           exact AnyAll.nil
          exact AnyAll.nil
         rintro _ rfl
         refine AT_cond (b := false) (g := none) (by simp [hbig, hb47, hco, hk3]) (fun hb => ?_) (fun hb => ?_)
         ·
          cases hb
         ·
          clear hb
          refine AT_skip ?_
          try simp only [nrm, reduceIte, Nat.reduceEqDiff]
          refine hK34 _ ?_
          refine AT_seq_k fun K35 hK35 => ?_
          refine AT_seq_region fun K36 hK36 => ?_
          simp [hwr, hq6, hbig, hb47, hco, hk3]
          repeat refine sg ?_
          refine hK36 _ ?_
          clear hK36 K36
          refine AT_cond (b := false) (g := none) (by simp [hbig, hb47, hco, hk3]) (fun hb => ?_) (fun hb => ?_)
          ·
           cases hb
          ·
           clear hb
           refine AT_skip ?_
           try simp only [nrm, reduceIte, Nat.reduceEqDiff]
           refine hK35 _ ?_
           refine AT_seq_region fun K37 hK37 => ?_
           simp [hwr, hq6, hbig, hb47, hco, hk3]
           repeat refine sg ?_
           refine hK37 _ ?_
           clear hK37 K37
           refine AT_cond (b := false) (g := none) (by simp [hbig, hb47, hco, hk3]) (fun hb => ?_) (fun hb => ?_)
           ·
            cases hb
           ·
            clear hb
            refine AT_skip ?_
            try simp only [nrm, reduceIte, Nat.reduceEqDiff]
            refine hK22 _ ?_
            refine AT_region_q fun K38 hK38 => ?_
            simp [hwr, hq6, hbig, hb47, hco, hk3]
            repeat refine sg ?_
            refine hK38 _ ?_
            clear hK38 K38
            try simp only [nrm, reduceIte, Nat.reduceEqDiff]
            refine hK19 _ (by first | rfl | simp) (q6 - (k + 1)) (by omega) ?_
            first
            | (refine ⟨k + 1, cur.name.adv, (p.name L).adv, hr1.adv hE hco, by omega, by omega, ?_⟩; simp [encP, Pl.adv, Cur.take, Cur.must, hr1.next, hco]; done)
            | (refine ⟨k + 1, cur.name, p.name L, hr1, by omega, by omega, ?_⟩; simp [encP, Cur.take, hr1.next, hco]; done)
       ·
        rcases Nat.mod_two_eq_zero_or_one k with hk2 | hk2
        ·
         have hk3 := tm2a hk2
         refine AT_seq_region fun K39 hK39 => ?_
         simp [hwr, hq6, hbig, hb47, hco, hk3]
         repeat refine sg ?_
         refine RVn_call ((by have h := c_ref07x_Is g L (by omega) (p.name L) hr1.lt [44]; simp only [encP] at h; exact h)) ?_
         simp [hwr, hq6, hbig, hb47, hco, hk3]
         repeat refine sg ?_
         refine hK39 _ ?_
         clear hK39 K39
         refine AT_seq_k fun K40 hK40 => ?_
         refine AT_seq_any [0, 1, 8, 9, 10, 15, 94] [9] (fun z9 => z9 = { n := 118, tm := [(0, .v (.str s) none), (1, .v (.int .u8 m) none), (8, .v (.gp b 0) none), (9, .lp 9 0), (10, .v (.int .i64 k) none), (15, .v (.bool true) none), (94, .v (.bool false) none)], bx := [(9, encP L (p.name L))], tb := [], sh := [(b, encC 110 cur.name.adv)], hint := [] }) Pt.mixed (fun K hK hQ => ?_) ?_
         ·
          refine ANY_take 0 (by rfl) hQ rfl rfl (by simp) (.inl ⟨_, rfl, rfl⟩) (by kernel_rfl) (by kernel_rfl) (by kernel_rfl) ?_
          refine ANY_take 1 (by rfl) hQ rfl rfl (by simp) (.inl ⟨_, rfl, rfl⟩) (by kernel_rfl) (by kernel_rfl) (by kernel_rfl) ?_
          refine ANY_ready [2] (by kernel_rfl) (by simp) ?_
          refine AnyAll.cons rfl (fun Ka1 hKa1 => ?_) ?_
          ·
           simp [hwr, hq6, encP, hbig, hb47, hco, hk3]
           repeat refine sg ?_
           refine hKa1 _ ?_
           clear hKa1 Ka1
           refine ANY_take 3 (by rfl) hQ rfl rfl (by simp) (.inl ⟨_, rfl, rfl⟩) (by kernel_rfl) (by kernel_rfl) (by kernel_rfl) ?_
           refine ANY_take 4 (by rfl) hQ rfl (by simp [hwr, hq6, encP, hbig, hb47, hco, hk3]) (by simp) (.inl ⟨_, rfl, rfl⟩) (by kernel_rfl) (by kernel_rfl) (by kernel_rfl) ?_
           refine ANY_take 5 (by rfl) hQ rfl (by simp [hwr, hq6, encP, hbig, hb47, hco, hk3]) (by simp) (.inl ⟨_, rfl, rfl⟩) (by kernel_rfl) (by kernel_rfl) (by kernel_rfl) ?_
           refine ANY_ready [6] (by kernel_rfl) (by simp) ?_
           refine AnyAll.cons rfl (fun Ka2 hKa2 => ?_) ?_
           ·
            simp [hwr, hq6, encP, hbig, hb47, hco, hk3]
            repeat refine sg ?_
            refine hKa2 _ ?_
            clear hKa2 Ka2
            refine ANY_ready [7] (by kernel_rfl) (by simp) ?_
            refine AnyAll.cons rfl (fun Ka3 hKa3 => ?_) ?_
            ·
             simp [hwr, hq6, encP, hbig, hb47, hco, hk3]
             repeat refine sg ?_
             refine hKa3 _ ?_
             clear hKa3 Ka3
             refine ANY_take 8 (by rfl) hQ rfl rfl (by simp) (.inl ⟨_, rfl, rfl⟩) (by kernel_rfl) (by kernel_rfl) (by kernel_rfl) ?_
             refine ANY_take 9 (by rfl) hQ rfl (by simp [hwr, hq6, encP, hbig, hb47, hco, hk3]) (by simp) (.inl ⟨_, rfl, rfl⟩) (by kernel_rfl) (by kernel_rfl) (by kernel_rfl) ?_
             refine ANY_take 11 (by rfl) hQ rfl (by simp [hwr, hq6, encP, hbig, hb47, hco, hk3]) (by simp) (.inr ⟨_, _, _, _, _, _, rfl, rfl, Pt.foff_55_2, rfl⟩) (by kernel_rfl) (by kernel_rfl) (by kernel_rfl) ?_
             refine ANY_ready [10, 12] (by kernel_rfl) (by simp) ?_
             refine AnyAll.cons rfl (fun Ka4 hKa4 => ?_) ?_
             ·
              simp [hwr, hq6, encP, hbig, hb47, hco, hk3]
              repeat refine sg ?_
              refine RVn_callC ((by have h := c_read_Cursor_Failed g b cur.name (by omega); rw [hr1.err] at h; exact h)) rfl ?_
              simp [hwr, hq6, encP, hbig, hb47, hco, hk3]
              repeat refine sg ?_
              refine hKa4 _ ?_
              clear hKa4 Ka4
              refine ANY_ready [12] (by kernel_rfl) (by simp) ?_
              refine AnyAll.cons rfl (fun Ka5 hKa5 => ?_) ?_
              ·
               simp [hwr, hq6, encP, hbig, hb47, hco, hk3]
               repeat refine sg ?_
               refine hKa5 _ ?_
               clear hKa5 Ka5
               refine ANY_ready [13] (by kernel_rfl) (by simp) ?_
               refine AnyAll.cons rfl (fun Ka6 hKa6 => ?_) ?_
               ·
                simp [hwr, hq6, encP, hbig, hb47, hco, hk3]
                repeat refine sg ?_
                refine hKa6 _ ?_
                clear hKa6 Ka6
                refine ANY_ready [14] (by kernel_rfl) (by simp) ?_
                refine AnyAll.cons rfl (fun Ka7 hKa7 => ?_) ?_
                ·
                 simp [hwr, hq6, encP, hbig, hb47, hco, hk3]
                 repeat refine sg ?_
                 refine hKa7 _ ?_
                 clear hKa7 Ka7
                 refine ANY_take 15 (by rfl) hQ rfl rfl (by simp) (.inl ⟨_, rfl, rfl⟩) (by kernel_rfl) (by kernel_rfl) (by kernel_rfl) ?_
                 refine ANY_take 16 (by rfl) hQ rfl (by simp [hwr, hq6, encP, hbig, hb47, hco, hk3]) (by simp) (.inl ⟨_, rfl, rfl⟩) (by kernel_rfl) (by kernel_rfl) (by kernel_rfl) ?_
                 refine ANY_take 18 (by rfl) hQ rfl (by simp [hwr, hq6, encP, hbig, hb47, hco, hk3]) (by simp) (.inl ⟨_, rfl, rfl⟩) (by kernel_rfl) (by kernel_rfl) (by kernel_rfl) ?_
                 refine ANY_ready [17] (by kernel_rfl) (by simp) ?_
                 refine AnyAll.cons rfl (fun Ka8 hKa8 => ?_) ?_
                 ·
                  simp [hwr, hq6, encP, hbig, hb47, hco, hk3]
                  repeat refine sg ?_
                  refine RVn_callC ((by have h := c_read_Cursor_Next g [44] b cur.name (by omega); rw [hr1.next] at h; exact h)) rfl ?_
                  simp [hwr, hq6, encP, hbig, hb47, hco, hk3]
                  repeat refine sg ?_
                  refine hKa8 _ ?_
                  clear hKa8 Ka8
                  refine ANY_ready [19] (by kernel_rfl) (by simp) ?_
                  refine AnyAll.cons rfl (fun Ka9 hKa9 => ?_) ?_
                  ·
                   simp [hwr, hq6, encP, hbig, hb47, hco, hk3]
                   repeat refine sg ?_
                   refine hKa9 _ ?_
                   clear hKa9 Ka9
                   refine ANY_ready [20] (by kernel_rfl) (by simp) ?_
                   refine AnyAll.cons rfl (fun Ka10 hKa10 => ?_) ?_
                   ·
                    simp [hwr, hq6, encP, hbig, hb47, hco, hk3]
                    repeat refine sg ?_
                    refine hKa10 _ ?_
                    clear hKa10 Ka10
                    refine ANY_take 21 (by rfl) hQ rfl rfl (by simp) (.inl ⟨_, rfl, rfl⟩) (by kernel_rfl) (by kernel_rfl) (by kernel_rfl) ?_
                    refine ANY_take 22 (by rfl) hQ rfl (by simp [hwr, hq6, encP, hbig, hb47, hco, hk3]) (by simp) (.inl ⟨_, rfl, rfl⟩) (by kernel_rfl) (by kernel_rfl) (by kernel_rfl) ?_
                    refine ANY_ready [23] (by kernel_rfl) (by simp) ?_
                    refine AnyAll.cons rfl (fun Ka11 hKa11 => ?_) ?_
                    ·
                     simp [hwr, hq6, encP, hbig, hb47, hco, hk3]
                     repeat refine sg ?_
                     refine hKa11 _ ?_
                     clear hKa11 Ka11
                     refine ANY_ready [24] (by kernel_rfl) (by simp) ?_
                     refine AnyAll.cons rfl (fun Ka12 hKa12 => ?_) ?_
                     ·
                      simp [hwr, hq6, encP, hbig, hb47, hco, hk3]
                      repeat refine sg ?_
                      refine hKa12 _ ?_
                      clear hKa12 Ka12
                      refine ANY_take 25 (by rfl) hQ rfl (by simp [hwr, hq6, encP, hbig, hb47, hco, hk3]) (by simp) (.inl ⟨_, rfl, rfl⟩) (by kernel_rfl) (by kernel_rfl) (by kernel_rfl) ?_
                      refine ANY_take 26 (by rfl) hQ rfl (by simp [hwr, hq6, encP, hbig, hb47, hco, hk3]) (by simp) (.inl ⟨_, rfl, rfl⟩) (by kernel_rfl) (by kernel_rfl) (by kernel_rfl) ?_
                      refine ANY_take 28 (by rfl) hQ rfl (by simp [hwr, hq6, encP, hbig, hb47, hco, hk3]) (by simp) (.inl ⟨_, rfl, rfl⟩) (by kernel_rfl) (by kernel_rfl) (by kernel_rfl) ?_
                      refine ANY_ready [27] (by kernel_rfl) (by simp) ?_
                      refine AnyAll.cons rfl (fun Ka13 hKa13 => ?_) ?_
                      ·
                       simp [hwr, hq6, encP, hbig, hb47, hco, hk3]
                       repeat refine sg ?_
                       refine RVn_callC ((by have h := c_read_Cursor_Take g [44] b cur.name (by omega); rw [hr1.next] at h; exact h)) rfl ?_
                       simp [hwr, hq6, encP, hbig, hb47, hco, hk3]
                       repeat refine sg ?_
                       refine hKa13 _ ?_
                       clear hKa13 Ka13
                       refine ANY_ready [29] (by kernel_rfl) (by simp) ?_
                       refine AnyAll.cons rfl (fun Ka14 hKa14 => ?_) ?_
                       ·
                        simp [hwr, hq6, encP, hbig, hb47, hco, hk3]
                        repeat refine sg ?_
                        refine hKa14 _ ?_
                        clear hKa14 Ka14
                        refine ANY_ready [30] (by kernel_rfl) (by simp) ?_
                        refine AnyAll.cons rfl (fun Ka15 hKa15 => ?_) ?_
                        ·
                         simp [hwr, hq6, encP, hbig, hb47, hco, hk3]
                         repeat refine sg ?_
                         refine hKa15 _ ?_
                         clear hKa15 Ka15
                         refine ANY_ready [31] (by kernel_rfl) (by simp) ?_
                         refine AnyAll.cons rfl (fun Ka16 hKa16 => ?_) ?_
                         ·
                          simp [hwr, hq6, encP, hbig, hb47, hco, hk3]
                          repeat refine sg ?_
                          refine hKa16 _ ?_
                          clear hKa16 Ka16
                          refine ANY_done (by kernel_rfl) ?_
                          refine hK _ (by first | rfl | simp) ?_
                          simp [encP, Cur.take, hr1.next, hco]
                         exact AnyAll.nil
                        exact AnyAll.nil
                       exact AnyAll.nil
                      exact AnyAll.nil
                     exact AnyAll.nil
                    exact AnyAll.nil
                   exact AnyAll.nil
                  exact AnyAll.nil
                 exact AnyAll.nil
                exact AnyAll.nil
               exact AnyAll.nil
              exact AnyAll.nil
             refine AnyAll.cons rfl (fun Ka17 hKa17 => ?_) ?_
             ·
              simp [hwr, hq6, encP, hbig, hb47, hco, hk3]
              repeat refine sg ?_
              refine hKa17 _ ?_
              clear hKa17 Ka17
              refine ANY_ready [10] (by kernel_rfl) (by simp) ?_
              refine AnyAll.cons rfl (fun Ka18 hKa18 => ?_) ?_
              ·
               simp [hwr, hq6, encP, hbig, hb47, hco, hk3]
               repeat refine sg ?_
               refine RVn_callC ((by have h := c_read_Cursor_Failed g b cur.name (by omega); rw [hr1.err] at h; exact h)) rfl ?_
               simp [hwr, hq6, encP, hbig, hb47, hco, hk3]
               repeat refine sg ?_
               refine hKa18 _ ?_
               clear hKa18 Ka18
               refine ANY_ready [13] (by kernel_rfl) (by simp) ?_
               refine AnyAll.cons rfl (fun Ka19 hKa19 => ?_) ?_
               ·
                simp [hwr, hq6, encP, hbig, hb47, hco, hk3]
                repeat refine sg ?_
                refine hKa19 _ ?_
                clear hKa19 Ka19
                refine ANY_ready [14] (by kernel_rfl) (by simp) ?_
                refine AnyAll.cons rfl (fun Ka20 hKa20 => ?_) ?_
                ·
                 simp [hwr, hq6, encP, hbig, hb47, hco, hk3]
                 repeat refine sg ?_
                 refine hKa20 _ ?_
                 clear hKa20 Ka20
                 refine ANY_take 15 (by rfl) hQ rfl rfl (by simp) (.inl ⟨_, rfl, rfl⟩) (by kernel_rfl) (by kernel_rfl) (by kernel_rfl) ?_
                 refine ANY_take 16 (by rfl) hQ rfl (by simp [hwr, hq6, encP, hbig, hb47, hco, hk3]) (by simp) (.inl ⟨_, rfl, rfl⟩) (by kernel_rfl) (by kernel_rfl) (by kernel_rfl) ?_
                 refine ANY_take 18 (by rfl) hQ rfl (by simp [hwr, hq6, encP, hbig, hb47, hco, hk3]) (by simp) (.inl ⟨_, rfl, rfl⟩) (by kernel_rfl) (by kernel_rfl) (by kernel_rfl) ?_
                 refine ANY_ready [17] (by kernel_rfl) (by simp) ?_
                 refine AnyAll.cons rfl (fun Ka21 hKa21 => ?_) ?_
                 ·
                  simp [hwr, hq6, encP, hbig, hb47, hco, hk3]
                  repeat refine sg ?_
                  refine RVn_callC ((by have h := c_read_Cursor_Next g [44] b cur.name (by omega); rw [hr1.next] at h; exact h)) rfl ?_
                  simp [hwr, hq6, encP, hbig, hb47, hco, hk3]
                  repeat refine sg ?_
                  refine hKa21 _ ?_
                  clear hKa21 Ka21
                  refine ANY_ready [19] (by kernel_rfl) (by simp) ?_
                  refine AnyAll.cons rfl (fun Ka22 hKa22 => ?_) ?_
                  ·
                   simp [hwr, hq6, encP, hbig, hb47, hco, hk3]
                   repeat refine sg ?_
                   refine hKa22 _ ?_
                   clear hKa22 Ka22
                   refine ANY_ready [20] (by kernel_rfl) (by simp) ?_
                   refine AnyAll.cons rfl (fun Ka23 hKa23 => ?_) ?_
                   ·
                    simp [hwr, hq6, encP, hbig, hb47, hco, hk3]
                    repeat refine sg ?_
                    refine hKa23 _ ?_
                    clear hKa23 Ka23
                    refine ANY_take 21 (by rfl) hQ rfl rfl (by simp) (.inl ⟨_, rfl, rfl⟩) (by kernel_rfl) (by kernel_rfl) (by kernel_rfl) ?_
                    refine ANY_take 22 (by rfl) hQ rfl (by simp [hwr, hq6, encP, hbig, hb47, hco, hk3]) (by simp) (.inl ⟨_, rfl, rfl⟩) (by kernel_rfl) (by kernel_rfl) (by kernel_rfl) ?_
                    refine ANY_ready [23] (by kernel_rfl) (by simp) ?_
                    refine AnyAll.cons rfl (fun Ka24 hKa24 => ?_) ?_
                    ·
                     simp [hwr, hq6, encP, hbig, hb47, hco, hk3]
                     repeat refine sg ?_
                     refine hKa24 _ ?_
                     clear hKa24 Ka24
                     refine ANY_ready [24] (by kernel_rfl) (by simp) ?_
                     refine AnyAll.cons rfl (fun Ka25 hKa25 => ?_) ?_
                     ·
                      simp [hwr, hq6, encP, hbig, hb47, hco, hk3]
                      repeat refine sg ?_
                      refine hKa25 _ ?_
                      clear hKa25 Ka25
                      refine ANY_take 25 (by rfl) hQ rfl (by simp [hwr, hq6, encP, hbig, hb47, hco, hk3]) (by simp) (.inl ⟨_, rfl, rfl⟩) (by kernel_rfl) (by kernel_rfl) (by kernel_rfl) ?_
                      refine ANY_take 26 (by rfl) hQ rfl (by simp [hwr, hq6, encP, hbig, hb47, hco, hk3]) (by simp) (.inl ⟨_, rfl, rfl⟩) (by kernel_rfl) (by kernel_rfl) (by kernel_rfl) ?_
                      refine ANY_take 28 (by rfl) hQ rfl (by simp [hwr, hq6, encP, hbig, hb47, hco, hk3]) (by simp) (.inl ⟨_, rfl, rfl⟩) (by kernel_rfl) (by kernel_rfl) (by kernel_rfl) ?_
                      refine ANY_ready [27] (by kernel_rfl) (by simp) ?_
                      refine AnyAll.cons rfl (fun Ka26 hKa26 => ?_) ?_
                      ·
                       simp [hwr, hq6, encP, hbig, hb47, hco, hk3]
                       repeat refine sg ?_
                       refine RVn_callC ((by have h := c_read_Cursor_Take g [44] b cur.name (by omega); rw [hr1.next] at h; exact h)) rfl ?_
                       simp [hwr, hq6, encP, hbig, hb47, hco, hk3]
                       repeat refine sg ?_
                       refine hKa26 _ ?_
                       clear hKa26 Ka26
                       refine ANY_ready [29] (by kernel_rfl) (by simp) ?_
                       refine AnyAll.cons rfl (fun Ka27 hKa27 => ?_) ?_
                       ·
                        simp [hwr, hq6, encP, hbig, hb47, hco, hk3]
                        repeat refine sg ?_
                        refine hKa27 _ ?_
                        clear hKa27 Ka27
                        refine ANY_ready [30] (by kernel_rfl) (by simp) ?_
                        refine AnyAll.cons rfl (fun Ka28 hKa28 => ?_) ?_
                        ·
                         simp [hwr, hq6, encP, hbig, hb47, hco, hk3]
                         repeat refine sg ?_
                         refine hKa28 _ ?_
                         clear hKa28 Ka28
                         refine ANY_ready [31] (by kernel_rfl) (by simp) ?_
                         refine AnyAll.cons rfl (fun Ka29 hKa29 => ?_) ?_
                         ·
                          simp [hwr, hq6, encP, hbig, hb47, hco, hk3]
                          repeat refine sg ?_
                          refine hKa29 _ ?_
                          clear hKa29 Ka29
                          refine ANY_done (by kernel_rfl) ?_
                          refine hK _ (by first | rfl | simp) ?_
                          simp [encP, Cur.take, hr1.next, hco]
                         exact AnyAll.nil
                        exact AnyAll.nil
                       exact AnyAll.nil
                      exact AnyAll.nil
                     exact AnyAll.nil
                    exact AnyAll.nil
                   exact AnyAll.nil
                  exact AnyAll.nil
                 exact AnyAll.nil
                exact AnyAll.nil
               exact AnyAll.nil
              exact AnyAll.nil
             exact AnyAll.nil
            exact AnyAll.nil
           exact AnyAll.nil
          exact AnyAll.nil
         rintro _ rfl
         refine AT_cond (b := false) (g := none) (by simp [hbig, hb47, hco, hk3]) (fun hb => ?_) (fun hb => ?_)
         ·
          cases hb
         ·
          clear hb
          refine AT_skip ?_
          try simp only [nrm, reduceIte, Nat.reduceEqDiff]
          refine hK40 _ ?_
          refine AT_seq_k fun K41 hK41 => ?_
          refine AT_seq_region fun K42 hK42 => ?_
          simp [hwr, hq6, hbig, hb47, hco, hk3]
          repeat refine sg ?_
          refine hK42 _ ?_
          clear hK42 K42
          refine AT_cond (b := true) (g := none) (by simp [hbig, hb47, hco, hk3]) (fun hb => ?_) (fun hb => ?_)
          ·
           clear hb
           refine AT_region_q fun K43 hK43 => ?_
           simp [hwr, hq6, encP, hbig, hb47, hco, hk3]
           repeat refine sg ?_
           refine hK43 _ ?_
           clear hK43 K43
           try simp only [nrm, reduceIte, Nat.reduceEqDiff]
           refine hK41 _ ?_
           refine AT_seq_region fun K44 hK44 => ?_
           simp [hwr, hq6, hbig, hb47, hco, hk3]
           repeat refine sg ?_
           refine hK44 _ ?_
           clear hK44 K44
           refine AT_cond (b := false) (g := none) (by simp [hbig, hb47, hco, hk3]) (fun hb => ?_) (fun hb => ?_)
           ·
            cases hb
           ·
            clear hb
            refine AT_skip ?_
            try simp only [nrm, reduceIte, Nat.reduceEqDiff]
            refine hK22 _ ?_
            refine AT_region_q fun K45 hK45 => ?_
            simp [hwr, hq6, hbig, hb47, hco, hk3]
            repeat refine sg ?_
            refine hK45 _ ?_
            clear hK45 K45
            try simp only [nrm, reduceIte, Nat.reduceEqDiff]
            refine hK19 _ (by first | rfl | simp) (q6 - (k + 1)) (by omega) ?_
            first
            | (refine ⟨k + 1, cur.name.adv, (p.name L).adv, hr1.adv hE hco, by omega, by omega, ?_⟩; simp [encP, Pl.adv, Cur.take, Cur.must, hr1.next, hco]; done)
            | (refine ⟨k + 1, cur.name, p.name L, hr1, by omega, by omega, ?_⟩; simp [encP, Cur.take, hr1.next, hco]; done)
          ·
           cases hb
        ·
         have hk3 := tm2b hk2
         refine AT_seq_region fun K46 hK46 => ?_
         simp [hwr, hq6, hbig, hb47, hco, hk3]
         repeat refine sg ?_
         refine RVn_call ((by have h := c_ref07x_Is g L (by omega) (p.name L) hr1.lt [44]; simp only [encP] at h; exact h)) ?_
         simp [hwr, hq6, hbig, hb47, hco, hk3]
         repeat refine sg ?_
         refine hK46 _ ?_
         clear hK46 K46
         refine AT_seq_k fun K47 hK47 => ?_
         refine AT_seq_any [0, 1, 8, 9, 10, 15, 94] [9] (fun z9 => z9 = { n := 118, tm := [(0, .v (.str s) none), (1, .v (.int .u8 m) none), (8, .v (.gp b 0) none), (9, .lp 9 0), (10, .v (.int .i64 k) none), (15, .v (.bool true) none), (94, .v (.bool false) none)], bx := [(9, encP L (p.name L))], tb := [], sh := [(b, encC 110 cur.name)], hint := [] }) Pt.mixed (fun K hK hQ => ?_) ?_
         ·
          refine ANY_take 0 (by rfl) hQ rfl rfl (by simp) (.inl ⟨_, rfl, rfl⟩) (by kernel_rfl) (by kernel_rfl) (by kernel_rfl) ?_
          refine ANY_take 1 (by rfl) hQ rfl rfl (by simp) (.inl ⟨_, rfl, rfl⟩) (by kernel_rfl) (by kernel_rfl) (by kernel_rfl) ?_
          refine ANY_ready [2] (by kernel_rfl) (by simp) ?_
          refine AnyAll.cons rfl (fun Ka1 hKa1 => ?_) ?_
          ·
           simp [hwr, hq6, encP, hbig, hb47, hco, hk3]
           repeat refine sg ?_
           refine hKa1 _ ?_
           clear hKa1 Ka1
           refine ANY_take 3 (by rfl) hQ rfl rfl (by simp) (.inl ⟨_, rfl, rfl⟩) (by kernel_rfl) (by kernel_rfl) (by kernel_rfl) ?_
           refine ANY_take 4 (by rfl) hQ rfl (by simp [hwr, hq6, encP, hbig, hb47, hco, hk3]) (by simp) (.inl ⟨_, rfl, rfl⟩) (by kernel_rfl) (by kernel_rfl) (by kernel_rfl) ?_
           refine ANY_take 5 (by rfl) hQ rfl (by simp [hwr, hq6, encP, hbig, hb47, hco, hk3]) (by simp) (.inl ⟨_, rfl, rfl⟩) (by kernel_rfl) (by kernel_rfl) (by kernel_rfl) ?_
           refine ANY_ready [6] (by kernel_rfl) (by simp) ?_
           refine AnyAll.cons rfl (fun Ka2 hKa2 => ?_) ?_
           ·
            simp [hwr, hq6, encP, hbig, hb47, hco, hk3]
            repeat refine sg ?_
            refine hKa2 _ ?_
            clear hKa2 Ka2
            refine ANY_ready [7] (by kernel_rfl) (by simp) ?_
            refine AnyAll.cons rfl (fun Ka3 hKa3 => ?_) ?_
            ·
             simp [hwr, hq6, encP, hbig, hb47, hco, hk3]
             repeat refine sg ?_
             refine hKa3 _ ?_
             clear hKa3 Ka3
             refine ANY_take 8 (by rfl) hQ rfl rfl (by simp) (.inl ⟨_, rfl, rfl⟩) (by kernel_rfl) (by kernel_rfl) (by kernel_rfl) ?_
             refine ANY_take 9 (by rfl) hQ rfl (by simp [hwr, hq6, encP, hbig, hb47, hco, hk3]) (by simp) (.inl ⟨_, rfl, rfl⟩) (by kernel_rfl) (by kernel_rfl) (by kernel_rfl) ?_
             refine ANY_take 11 (by rfl) hQ rfl (by simp [hwr, hq6, encP, hbig, hb47, hco, hk3]) (by simp) (.inr ⟨_, _, _, _, _, _, rfl, rfl, Pt.foff_55_2, rfl⟩) (by kernel_rfl) (by kernel_rfl) (by kernel_rfl) ?_
             refine ANY_ready [10, 12] (by kernel_rfl) (by simp) ?_
             refine AnyAll.cons rfl (fun Ka4 hKa4 => ?_) ?_
             ·
              simp [hwr, hq6, encP, hbig, hb47, hco, hk3]
              repeat refine sg ?_
              refine RVn_callC ((by have h := c_read_Cursor_Failed g b cur.name (by omega); rw [hr1.err] at h; exact h)) rfl ?_
              simp [hwr, hq6, encP, hbig, hb47, hco, hk3]
              repeat refine sg ?_
              refine hKa4 _ ?_
              clear hKa4 Ka4
              refine ANY_ready [12] (by kernel_rfl) (by simp) ?_
              refine AnyAll.cons rfl (fun Ka5 hKa5 => ?_) ?_
              ·
               simp [hwr, hq6, encP, hbig, hb47, hco, hk3]
               repeat refine sg ?_
               refine hKa5 _ ?_
               clear hKa5 Ka5
               refine ANY_ready [13] (by kernel_rfl) (by simp) ?_
               refine AnyAll.cons rfl (fun Ka6 hKa6 => ?_) ?_
               ·
                simp [hwr, hq6, encP, hbig, hb47, hco, hk3]
                repeat refine sg ?_
                refine hKa6 _ ?_
                clear hKa6 Ka6
                refine ANY_ready [14] (by kernel_rfl) (by simp) ?_
                refine AnyAll.cons rfl (fun Ka7 hKa7 => ?_) ?_
                ·
                 simp [hwr, hq6, encP, hbig, hb47, hco, hk3]
                 repeat refine sg ?_
                 refine hKa7 _ ?_
                 clear hKa7 Ka7
                 refine ANY_take 15 (by rfl) hQ rfl rfl (by simp) (.inl ⟨_, rfl, rfl⟩) (by kernel_rfl) (by kernel_rfl) (by kernel_rfl) ?_
                 refine ANY_take 16 (by rfl) hQ rfl (by simp [hwr, hq6, encP, hbig, hb47, hco, hk3]) (by simp) (.inl ⟨_, rfl, rfl⟩) (by kernel_rfl) (by kernel_rfl) (by kernel_rfl) ?_
                 refine ANY_take 18 (by rfl) hQ rfl (by simp [hwr, hq6, encP, hbig, hb47, hco, hk3]) (by simp) (.inl ⟨_, rfl, rfl⟩) (by kernel_rfl) (by kernel_rfl) (by kernel_rfl) ?_
                 refine ANY_ready [17] (by kernel_rfl) (by simp) ?_
                 refine AnyAll.cons rfl (fun Ka8 hKa8 => ?_) ?_
                 ·
                  simp [hwr, hq6, encP, hbig, hb47, hco, hk3]
                  repeat refine sg ?_
                  refine RVn_callC ((by have h := c_read_Cursor_Next g [44] b cur.name (by omega); rw [hr1.next] at h; exact h)) rfl ?_
                  simp [hwr, hq6, encP, hbig, hb47, hco, hk3]
                  repeat refine sg ?_
                  refine hKa8 _ ?_
                  clear hKa8 Ka8
                  refine ANY_ready [19] (by kernel_rfl) (by simp) ?_
                  refine AnyAll.cons rfl (fun Ka9 hKa9 => ?_) ?_
                  ·
                   simp [hwr, hq6, encP, hbig, hb47, hco, hk3]
                   repeat refine sg ?_
                   refine hKa9 _ ?_
                   clear hKa9 Ka9
                   refine ANY_ready [20] (by kernel_rfl) (by simp) ?_
                   refine AnyAll.cons rfl (fun Ka10 hKa10 => ?_) ?_
                   ·
                    simp [hwr, hq6, encP, hbig, hb47, hco, hk3]
                    repeat refine sg ?_
                    refine hKa10 _ ?_
                    clear hKa10 Ka10
                    refine ANY_take 21 (by rfl) hQ rfl rfl (by simp) (.inl ⟨_, rfl, rfl⟩) (by kernel_rfl) (by kernel_rfl) (by kernel_rfl) ?_
                    refine ANY_take 22 (by rfl) hQ rfl (by simp [hwr, hq6, encP, hbig, hb47, hco, hk3]) (by simp) (.inl ⟨_, rfl, rfl⟩) (by kernel_rfl) (by kernel_rfl) (by kernel_rfl) ?_
                    refine ANY_ready [23] (by kernel_rfl) (by simp) ?_
                    refine AnyAll.cons rfl (fun Ka11 hKa11 => ?_) ?_
                    ·
                     simp [hwr, hq6, encP, hbig, hb47, hco, hk3]
                     repeat refine sg ?_
                     refine hKa11 _ ?_
                     clear hKa11 Ka11
                     refine ANY_ready [24] (by kernel_rfl) (by simp) ?_
                     refine AnyAll.cons rfl (fun Ka12 hKa12 => ?_) ?_
                     ·
                      simp [hwr, hq6, encP, hbig, hb47, hco, hk3]
                      repeat refine sg ?_
                      refine hKa12 _ ?_
                      clear hKa12 Ka12
                      refine ANY_take 25 (by rfl) hQ rfl (by simp [hwr, hq6, encP, hbig, hb47, hco, hk3]) (by simp) (.inl ⟨_, rfl, rfl⟩) (by kernel_rfl) (by kernel_rfl) (by kernel_rfl) ?_
                      refine ANY_skip 26 (by rfl) hQ rfl (by simp [hwr, hq6, encP, hbig, hb47, hco, hk3]) (by simp) (by rfl) (by kernel_rfl) (by kernel_rfl) (by kernel_rfl) ?_
                      refine ANY_skip 28 (by rfl) hQ rfl (by simp [hwr, hq6, encP, hbig, hb47, hco, hk3]) (by simp) (by rfl) (by kernel_rfl) (by kernel_rfl) (by kernel_rfl) ?_
                      refine ANY_ready [27] (by kernel_rfl) (by simp) ?_
                      refine AnyAll.cons rfl (fun Ka13 hKa13 => ?_) ?_
                      ·
                       simp [hwr, hq6, encP, hbig, hb47, hco, hk3]
                       repeat refine sg ?_
                       refine hKa13 _ ?_
                       clear hKa13 Ka13
                       refine ANY_skip 29 (by rfl) hQ rfl (by simp [hwr, hq6, encP, hbig, hb47, hco, hk3]) (by simp) (by rfl) (by kernel_rfl) (by kernel_rfl) (by kernel_rfl) ?_
                       refine ANY_ready [30] (by kernel_rfl) (by simp) ?_
                       refine AnyAll.cons rfl (fun Ka14 hKa14 => ?_) ?_
                       ·
                        simp [hwr, hq6, encP, hbig, hb47, hco, hk3]
                        repeat refine sg ?_
                        refine hKa14 _ ?_
                        clear hKa14 Ka14
                        refine ANY_ready [31] (by kernel_rfl) (by simp) ?_
                        refine AnyAll.cons rfl (fun Ka15 hKa15 => ?_) ?_
                        ·
                         simp [hwr, hq6, encP, hbig, hb47, hco, hk3]
                         repeat refine sg ?_
                         refine hKa15 _ ?_
                         clear hKa15 Ka15
                         refine ANY_done (by kernel_rfl) ?_
                         refine hK _ (by first | rfl | simp) ?_
                         simp [encP, Cur.take, hr1.next, hco]
                        exact AnyAll.nil
                       exact AnyAll.nil
                      exact AnyAll.nil
                     exact AnyAll.nil
                    exact AnyAll.nil
                   exact AnyAll.nil
                  exact AnyAll.nil
                 exact AnyAll.nil
                exact AnyAll.nil
               exact AnyAll.nil
              exact AnyAll.nil
             refine AnyAll.cons rfl (fun Ka16 hKa16 => ?_) ?_
             ·
              simp [hwr, hq6, encP, hbig, hb47, hco, hk3]
              repeat refine sg ?_
              refine hKa16 _ ?_
              clear hKa16 Ka16
              refine ANY_ready [10] (by kernel_rfl) (by simp) ?_
              refine AnyAll.cons rfl (fun Ka17 hKa17 => ?_) ?_
              ·
               simp [hwr, hq6, encP, hbig, hb47, hco, hk3]
               repeat refine sg ?_
               refine RVn_callC ((by have h := c_read_Cursor_Failed g b cur.name (by omega); rw [hr1.err] at h; exact h)) rfl ?_
               simp [hwr, hq6, encP, hbig, hb47, hco, hk3]
               repeat refine sg ?_
               refine hKa17 _ ?_
               clear hKa17 Ka17
               refine ANY_ready [13] (by kernel_rfl) (by simp) ?_
               refine AnyAll.cons rfl (fun Ka18 hKa18 => ?_) ?_
               ·
                simp [hwr, hq6, encP, hbig, hb47, hco, hk3]
                repeat refine sg ?_
                refine hKa18 _ ?_
                clear hKa18 Ka18
                refine ANY_ready [14] (by kernel_rfl) (by simp) ?_
                refine AnyAll.cons rfl (fun Ka19 hKa19 => ?_) ?_
                ·
                 simp [hwr, hq6, encP, hbig, hb47, hco, hk3]
                 repeat refine sg ?_
                 refine hKa19 _ ?_
                 clear hKa19 Ka19
                 refine ANY_take 15 (by rfl) hQ rfl rfl (by simp) (.inl ⟨_, rfl, rfl⟩) (by kernel_rfl) (by kernel_rfl) (by kernel_rfl) ?_
                 refine ANY_take 16 (by rfl) hQ rfl (by simp [hwr, hq6, encP, hbig, hb47, hco, hk3]) (by simp) (.inl ⟨_, rfl, rfl⟩) (by kernel_rfl) (by kernel_rfl) (by kernel_rfl) ?_
                 refine ANY_take 18 (by rfl) hQ rfl (by simp [hwr, hq6, encP, hbig, hb47, hco, hk3]) (by simp) (.inl ⟨_, rfl, rfl⟩) (by kernel_rfl) (by kernel_rfl) (by kernel_rfl) ?_
                 refine ANY_ready [17] (by kernel_rfl) (by simp) ?_
                 refine AnyAll.cons rfl (fun Ka20 hKa20 => ?_) ?_
                 ·
                  simp [hwr, hq6, encP, hbig, hb47, hco, hk3]
                  repeat refine sg ?_
                  refine RVn_callC ((by have h := c_read_Cursor_Next g [44] b cur.name (by omega); rw [hr1.next] at h; exact h)) rfl ?_
                  simp [hwr, hq6, encP, hbig, hb47, hco, hk3]
                  repeat refine sg ?_
                  refine hKa20 _ ?_
                  clear hKa20 Ka20
                  refine ANY_ready [19] (by kernel_rfl) (by simp) ?_
                  refine AnyAll.cons rfl (fun Ka21 hKa21 => ?_) ?_
                  ·
                   simp [hwr, hq6, encP, hbig, hb47, hco, hk3]
                   repeat refine sg ?_
                   refine hKa21 _ ?_
                   clear hKa21 Ka21
                   refine ANY_ready [20] (by kernel_rfl) (by simp) ?_
                   refine AnyAll.cons rfl (fun Ka22 hKa22 => ?_) ?_
                   ·
                    simp [hwr, hq6, encP, hbig, hb47, hco, hk3]
                    repeat refine sg ?_
                    refine hKa22 _ ?_
                    clear hKa22 Ka22
                    refine ANY_take 21 (by rfl) hQ rfl rfl (by simp) (.inl ⟨_, rfl, rfl⟩) (by kernel_rfl) (by kernel_rfl) (by kernel_rfl) ?_
                    refine ANY_take 22 (by rfl) hQ rfl (by simp [hwr, hq6, encP, hbig, hb47, hco, hk3]) (by simp) (.inl ⟨_, rfl, rfl⟩) (by kernel_rfl) (by kernel_rfl) (by kernel_rfl) ?_
                    refine ANY_ready [23] (by kernel_rfl) (by simp) ?_
                    refine AnyAll.cons rfl (fun Ka23 hKa23 => ?_) ?_
                    ·
                     simp [hwr, hq6, encP, hbig, hb47, hco, hk3]
                     repeat refine sg ?_
                     refine hKa23 _ ?_
                     clear hKa23 Ka23
                     refine ANY_ready [24] (by kernel_rfl) (by simp) ?_
                     refine AnyAll.cons rfl (fun Ka24 hKa24 => ?_) ?_
                     ·
                      simp [hwr, hq6, encP, hbig, hb47, hco, hk3]
                      repeat refine sg ?_
                      refine hKa24 _ ?_
                      clear hKa24 Ka24
                      refine ANY_take 25 (by rfl) hQ rfl (by simp [hwr, hq6, encP, hbig, hb47, hco, hk3]) (by simp) (.inl ⟨_, rfl, rfl⟩) (by kernel_rfl) (by kernel_rfl) (by kernel_rfl) ?_
                      refine ANY_skip 26 (by rfl) hQ rfl (by simp [hwr, hq6, encP, hbig, hb47, hco, hk3]) (by simp) (by rfl) (by kernel_rfl) (by kernel_rfl) (by kernel_rfl) ?_
                      refine ANY_skip 28 (by rfl) hQ rfl (by simp [hwr, hq6, encP, hbig, hb47, hco, hk3]) (by simp) (by rfl) (by kernel_rfl) (by kernel_rfl) (by kernel_rfl) ?_
                      refine ANY_ready [27] (by kernel_rfl) (by simp) ?_
                      refine AnyAll.cons rfl (fun Ka25 hKa25 => ?_) ?_
                      ·
                       simp [hwr, hq6, encP, hbig, hb47, hco, hk3]
                       repeat refine sg ?_
                       refine hKa25 _ ?_
                       clear hKa25 Ka25
                       refine ANY_skip 29 (by rfl) hQ rfl (by simp [hwr, hq6, encP, hbig, hb47, hco, hk3]) (by simp) (by rfl) (by kernel_rfl) (by kernel_rfl) (by kernel_rfl) ?_
                       refine ANY_ready [30] (by kernel_rfl) (by simp) ?_
                       refine AnyAll.cons rfl (fun Ka26 hKa26 => ?_) ?_
                       ·
                        simp [hwr, hq6, encP, hbig, hb47, hco, hk3]
                        repeat refine sg ?_
                        refine hKa26 _ ?_
                        clear hKa26 Ka26
                        refine ANY_ready [31] (by kernel_rfl) (by simp) ?_
                        refine AnyAll.cons rfl (fun Ka27 hKa27 => ?_) ?_
                        ·
                         simp [hwr, hq6, encP, hbig, hb47, hco, hk3]
                         repeat refine sg ?_
                         refine hKa27 _ ?_
                         clear hKa27 Ka27
                         refine ANY_done (by kernel_rfl) ?_
                         refine hK _ (by first | rfl | simp) ?_
                         simp [encP, Cur.take, hr1.next, hco]
                        exact AnyAll.nil
                       exact AnyAll.nil
                      exact AnyAll.nil
                     exact AnyAll.nil
                    exact AnyAll.nil
                   exact AnyAll.nil
                  exact AnyAll.nil
                 exact AnyAll.nil
                exact AnyAll.nil
               exact AnyAll.nil
              exact AnyAll.nil
             exact AnyAll.nil
            exact AnyAll.nil
           exact AnyAll.nil
          exact AnyAll.nil
         rintro _ rfl
         refine AT_cond (b := false) (g := none) (by simp [hbig, hb47, hco, hk3]) (fun hb => ?_) (fun hb => ?_)
         ·
          cases hb
         ·
          clear hb
          refine AT_skip ?_
          try simp only [nrm, reduceIte, Nat.reduceEqDiff]
          refine hK47 _ ?_
          refine AT_seq_k fun K48 hK48 => ?_
          refine AT_seq_region fun K49 hK49 => ?_
          simp [hwr, hq6, hbig, hb47, hco, hk3]
          repeat refine sg ?_
          refine hK49 _ ?_
          clear hK49 K49
          refine AT_cond (b := true) (g := none) (by simp [hbig, hb47, hco, hk3]) (fun hb => ?_) (fun hb => ?_)
          ·
           clear hb
           refine AT_region_q fun K50 hK50 => ?_
           simp [hwr, hq6, encP, hbig, hb47, hco, hk3]
           repeat refine sg ?_
           refine hK50 _ ?_
           clear hK50 K50
           try simp only [nrm, reduceIte, Nat.reduceEqDiff]
           refine hK48 _ ?_
           refine AT_seq_region fun K51 hK51 => ?_
           simp [hwr, hq6, hbig, hb47, hco, hk3]
           repeat refine sg ?_
           refine hK51 _ ?_
           clear hK51 K51
           refine AT_cond (b := true) (g := none) (by simp [hbig, hb47, hco, hk3]) (fun hb => ?_) (fun hb => ?_)
           ·
            clear hb
            refine AT_region_q fun K52 hK52 => ?_
            simp [hwr, hq6, hbig, hb47, hco, hk3]
            repeat refine sg ?_
            refine RVn_callC ((by have h := c_read_Cursor_Must g [44] b cur.name (by omega); exact h)) rfl ?_
            simp [hwr, hq6, hbig, hb47, hco, hk3]
            repeat refine sg ?_
            refine hK52 _ ?_
            clear hK52 K52
            try simp only [nrm, reduceIte, Nat.reduceEqDiff]
            refine hK22 _ ?_
            refine AT_region_q fun K53 hK53 => ?_
            simp [hwr, hq6, hbig, hb47, hco, hk3]
            repeat refine sg ?_
            refine hK53 _ ?_
            clear hK53 K53
            try simp only [nrm, reduceIte, Nat.reduceEqDiff]
            refine hK19 _ (by first | rfl | simp) (q6 - (k + 1)) (by omega) ?_
            first
            | (refine ⟨k + 1, cur.name.adv, (p.name L).adv, hr1.adv hE hco, by omega, by omega, ?_⟩; simp [encP, Pl.adv, Cur.take, Cur.must, hr1.next, hco]; done)
            | (refine ⟨k + 1, cur.name, p.name L, hr1, by omega, by omega, ?_⟩; simp [encP, Cur.take, hr1.next, hco]; done)
           ·
            cases hb
          ·
           cases hb
      ·
       try simp [hwr, hq6, hbig] at hb47
       refine AT_exit ?_
       try simp only [nrm, reduceIte, Nat.reduceEqDiff]
       refine hK17 _ ?_
       refine AT_seq_region fun K54 hK54 => ?_
       simp [hwr, hq6, encP, hbig, hb47]
       repeat refine sg ?_
       refine RVn_call ((by have h := c_ref07x_Finish g L (by omega) p hr.lt; simp only [encP] at h; exact h)) ?_
       simp [hwr, hq6, encP, hbig, hb47]
       repeat refine sg ?_
       refine hK54 _ ?_
       clear hK54 K54
       refine AT_seq_region fun K55 hK55 => ?_
       have hce : cur.l.length ≤ 140000 := by rw [hr.l, List.length_drop]; omega
       simp [hwr, hq6, hbig, hb47]
       repeat refine sg ?_
       refine RVn_callC ((by have h := c_read_Cursor_End g b cur (by omega); exact h)) rfl ?_
       simp [hwr, hq6, hbig, hb47]
       repeat refine sg ?_
       refine RVn_call (toldA (g := g) _ _ _ (fin_told 110 hr) hty) ?_
       simp [hwr, hq6, hbig, hb47]
       repeat refine sg ?_
       refine hK55 _ ?_
       clear hK55 K55
       refine AT_ret ?_
       simp [hwr, hq6, Tryd.f5]

end Go.Proofs.YtpjkdaechknogaaDoor

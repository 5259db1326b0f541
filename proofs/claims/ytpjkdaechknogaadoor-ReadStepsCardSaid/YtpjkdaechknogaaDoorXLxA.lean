import Derived.Test.YtpjkdaechknogaaDoorPt
import Derived.Test.YtpjkdaechknogaaDoorPvPb
import Derived.Test.YtpjkdaechknogaaDoorPvY
import Derived.Test.YtpjkdaechknogaaDoorXNaI
import Derived.Test.YtpjkdaechknogaaDoorXShelf
section
/- Contracts: words, errors, lines. -/
set_option linter.all false
set_option maxHeartbeats 1000000
set_option maxRecDepth 10000
namespace Go.Proofs.YtpjkdaechknogaaDoor
open Go Go.Pv
variable (g : Nat → Option (List AV)) (rnd : Bool)

theorem c_lex_word (s : Str) (hs : s.length ≤ 1000000) : Valid Tryd.prog (G0 g rnd) 51 [.str s] (.int .i64 (wordN s : Nat)) := by

 refine valid_of [] Tryd.func51 rfl (by kernel_rfl) ?_
 refine AT_seq_region fun K1 hK1 => ?_
 simp [Tryd.f51]
 repeat refine sgX ?_
 refine hK1 _ ?_
 clear hK1 K1
 refine AT_seq_region fun K2 hK2 => ?_
 simp
 repeat refine sgX ?_
 refine hK2 _ ?_
 clear hK2 K2
 refine AT_seq_k fun K3 hK3 => ?_
 refine AT_block ?_
 refine AT_loop_q [0,3] [] (fun j s1 => ∃ k, k ≤ s.length ∧ wordN s = k + wordN (s.drop k) ∧ j = s.length - k ∧ s1 = { n := 25, tm := [(0, .v (.str s) none), (3, .v (.int .i64 (k : Nat)) none)], bx := [], tb := [], sh := [], hint := [] }) (s.length) (by first | rfl | simp) ?_ ?_
 ·
  exact ⟨0, by simp⟩
 ·
  rintro j s1 ⟨k, hk, hc, rfl, rfl⟩ K4 hK4
  refine AT_seq_k fun K5 hK5 => ?_
  by_cases hks : k < s.length
  ·
   have hda := List.drop_eq_getElem_cons hks
   by_cases h1 : 1 ≤ clsI s[k].toNat
   ·
    by_cases h2 : clsI s[k].toNat ≤ 3
    ·
     refine AT_seq_region fun K6 hK6 => ?_
     simp [hks, h1, h2]
     repeat refine sgX ?_
     try (
      refine RVn_call (c_name_Class g rnd _) ?_
      simp [hks, h1, h2]
      repeat refine sgX ?_)
     try (
      refine RVn_call (c_name_Class g rnd _) ?_
      simp [hks, h1, h2]
      repeat refine sgX ?_)
     refine hK6 _ ?_
     clear hK6 K6
     refine AT_cond (b := true) (g := none) (by simp [hks, h1, h2]) (fun hb => ?_) (fun hb => ?_)
     ·
      clear hb
      refine AT_skip ?_
      try simp only [nrm, reduceIte, Nat.reduceEqDiff]
      refine hK5 _ ?_
      refine AT_block ?_
      refine AT_region_q fun K7 hK7 => ?_
      simp [hks, h1, h2]
      repeat refine sgX ?_
      refine hK7 _ ?_
      clear hK7 K7
      try simp only [nrm, reduceIte, Nat.reduceEqDiff]
      refine hK4 _ (by first | rfl | simp) (s.length - (k+1)) (by omega) ?_
      refine ⟨k+1, by omega, ?_, by omega, by simp⟩
      rw [hc, hda, wordN_cons, if_pos (by simp [wc, h1, h2])]; omega
     ·
      cases hb
    ·
     refine AT_seq_region fun K8 hK8 => ?_
     simp [hks, h1, h2]
     repeat refine sgX ?_
     try (
      refine RVn_call (c_name_Class g rnd _) ?_
      simp [hks, h1, h2]
      repeat refine sgX ?_)
     try (
      refine RVn_call (c_name_Class g rnd _) ?_
      simp [hks, h1, h2]
      repeat refine sgX ?_)
     refine hK8 _ ?_
     clear hK8 K8
     refine AT_cond (b := false) (g := none) (by simp [hks, h1, h2]) (fun hb => ?_) (fun hb => ?_)
     ·
      cases hb
     ·
      clear hb
      refine AT_exit ?_
      try simp only [nrm, reduceIte, Nat.reduceEqDiff]
      refine hK3 _ ?_
      refine AT_seq_region fun K9 hK9 => ?_
      simp [hks, h1, h2]
      repeat refine sgX ?_
      refine hK9 _ ?_
      clear hK9 K9
      refine AT_ret ?_
      simp [Tryd.f51]
      first
      | (rw [hc, hda, wordN_cons]; simp [wc, h1]; done)
      | (rw [hc, hda, wordN_cons]; simp [wc, h1, h2]; done)
      | (rw [hc, List.drop_eq_nil_of_le (by omega)]; simp [wordN]; done)
   ·
    refine AT_seq_region fun K10 hK10 => ?_
    simp [hks, h1]
    repeat refine sgX ?_
    try (
     refine RVn_call (c_name_Class g rnd _) ?_
     simp [hks, h1]
     repeat refine sgX ?_)
    try (
     refine RVn_call (c_name_Class g rnd _) ?_
     simp [hks, h1]
     repeat refine sgX ?_)
    refine hK10 _ ?_
    clear hK10 K10
    refine AT_cond (b := false) (g := none) (by simp [hks, h1]) (fun hb => ?_) (fun hb => ?_)
    ·
     cases hb
    ·
     clear hb
     refine AT_exit ?_
     try simp only [nrm, reduceIte, Nat.reduceEqDiff]
     refine hK3 _ ?_
     refine AT_seq_region fun K11 hK11 => ?_
     simp [hks, h1]
     repeat refine sgX ?_
     refine hK11 _ ?_
     clear hK11 K11
     refine AT_ret ?_
     simp [Tryd.f51]
     first
     | (rw [hc, hda, wordN_cons]; simp [wc, h1]; done)
     | (rw [hc, hda, wordN_cons]; simp [wc, h1, h2]; done)
     | (rw [hc, List.drop_eq_nil_of_le (by omega)]; simp [wordN]; done)
  ·
   refine AT_seq_region fun K12 hK12 => ?_
   simp [hks]
   repeat refine sgX ?_
   try (
    refine RVn_call (c_name_Class g rnd _) ?_
    simp [hks]
    repeat refine sgX ?_)
   try (
    refine RVn_call (c_name_Class g rnd _) ?_
    simp [hks]
    repeat refine sgX ?_)
   refine hK12 _ ?_
   clear hK12 K12
   refine AT_cond (b := false) (g := none) (by simp [hks]) (fun hb => ?_) (fun hb => ?_)
   ·
    cases hb
   ·
    clear hb
    refine AT_exit ?_
    try simp only [nrm, reduceIte, Nat.reduceEqDiff]
    refine hK3 _ ?_
    refine AT_seq_region fun K13 hK13 => ?_
    simp [hks]
    repeat refine sgX ?_
    refine hK13 _ ?_
    clear hK13 K13
    refine AT_ret ?_
    simp [Tryd.f51]
    first
    | (rw [hc, hda, wordN_cons]; simp [wc, h1]; done)
    | (rw [hc, hda, wordN_cons]; simp [wc, h1, h2]; done)
    | (rw [hc, List.drop_eq_nil_of_le (by omega)]; simp [wordN]; done)

theorem c_fault_New (c n : Int) : Valid Tryd.prog (G0 g rnd) 46 [.int .i64 c, .int .i64 n] (.iface 110 (.agg [.int .i64 c, .int .i64 n])) := by

 refine valid_of [] Tryd.func46 rfl (by kernel_rfl) ?_
 refine AT_seq_region fun K1 hK1 => ?_
 simp [Tryd.f46]
 repeat refine sgX ?_
 refine hK1 _ ?_
 clear hK1 K1
 refine AT_seq_region fun K2 hK2 => ?_
 simp
 repeat refine sgX ?_
 refine hK2 _ ?_
 clear hK2 K2
 refine AT_ret ?_
 simp [Tryd.f46]

theorem c_internal_stringslite_HasPrefix (s p : Str) : Valid Tryd.prog (G0 g rnd) 65 [.str s, .str p] (.bool (Lib.hasPrefix s p)) :=
  valid_two (by kernel_rfl) (fun _ _ _ h => rep_str h) (fun _ _ _ h => rep_str h) (fun _ _ => .bool _) (fun w => Tryd.stringslite_HasPrefix ⟨s.toArray⟩ ⟨p.toArray⟩ w)

theorem c_strings_HasPrefix (s p : Str) : Valid Tryd.prog (G0 g rnd) 49 [.str s, .str p] (.bool (Lib.hasPrefix s p)) := by

 refine valid_of [] Tryd.func49 rfl (by kernel_rfl) ?_
 refine AT_seq_region fun K1 hK1 => ?_
 simp [Tryd.f49]
 repeat refine sgX ?_
 refine hK1 _ ?_
 clear hK1 K1
 refine AT_seq_region fun K2 hK2 => ?_
 simp
 repeat refine sgX ?_
 refine RVn_call (c_internal_stringslite_HasPrefix g rnd _ _) ?_
 simp
 repeat refine sgX ?_
 refine hK2 _ ?_
 clear hK2 K2
 refine AT_ret ?_
 simp [Tryd.f49]

theorem c_internal_stringslite_IndexByte (s : Str) (c : UInt8) : Valid Tryd.prog (G0 g rnd) 66 [.str s, .int .u8 c.toNat] (.int .i64 (Lib.indexByte s c)) :=
  valid_two (by kernel_rfl) (fun _ _ _ h => rep_str h) (fun _ _ _ h => rep_int h) (fun _ _ => .int _ _) (fun w => by
    have := Tryd.stringslite_IndexByte ⟨s.toArray⟩ c.toNat w
    simpa using this)

theorem c_strings_IndexByte (s : Str) (c : UInt8) : Valid Tryd.prog (G0 g rnd) 50 [.str s, .int .u8 c.toNat] (.int .i64 (Lib.indexByte s c)) := by

 refine valid_of [] Tryd.func50 rfl (by kernel_rfl) ?_
 refine AT_seq_region fun K1 hK1 => ?_
 simp [Tryd.f50]
 repeat refine sgX ?_
 refine hK1 _ ?_
 clear hK1 K1
 refine AT_seq_region fun K2 hK2 => ?_
 simp
 repeat refine sgX ?_
 refine RVn_call (c_internal_stringslite_IndexByte g rnd _ _) ?_
 simp
 repeat refine sgX ?_
 refine hK2 _ ?_
 clear hK2 K2
 refine AT_ret ?_
 simp [Tryd.f50]

end Go.Proofs.YtpjkdaechknogaaDoor
end

section
/- Contracts: lex. -/
set_option linter.all false
set_option maxHeartbeats 1000000
set_option maxRecDepth 10000
namespace Go.Proofs.YtpjkdaechknogaaDoor
open Go Go.Pv
variable (g : Nat → Option (List AV)) (rnd : Bool)

theorem c_lex_Tokens_1 (k n i : Int) (src : Str) (out : List (List AV)) (hs : src.length ≤ 65536) (hi : 0 ≤ i) (hn : 0 ≤ n) (hin : i + n ≤ src.length) (hout : Pv.Rows 3 out) (hol : out.length ≤ 65536) : ValidB Tryd.prog (G0 g rnd) 47 [.int .i64 k, .int .i64 n] [4, 1, 5] [(4, [.slice out]), (1, [.str src]), (5, [.int .i64 i])] [(4, 0, gid 4 0, 86)] (.tup []) [(5, [.int .i64 (i + n)]), (4, [.slice (out ++ [[.int .i64 k, .str ((src.take (i + n).toNat).drop i.toNat), .int .i64 i]])]), (4, [.slice out]), (1, [.str src]), (5, [.int .i64 i])] [(4, 0, gid 4 0, 86)] := by

 refine validB_of [] Tryd.func47 rfl (by kernel_rfl) (by simp) ?_
 refine AT_seq_draw Pt.mixed (by kernel_rfl) fun K1 hK1 => ?_
 simp [Tryd.f47]
 repeat (refine ⟨by first | omega | assumption | (constructor <;> first | assumption | omega) | (simp at *; omega), ?_⟩)
 refine hK1 _ ?_
 clear hK1 K1
 refine AT_region_q fun K2 hK2 => ?_
 simp
 repeat (refine ⟨by first | omega | assumption | (constructor <;> first | assumption | omega) | (simp at *; omega), ?_⟩)
 refine hK2 _ ?_
 clear hK2 K2
 try simp only [nrm, reduceIte, Nat.reduceEqDiff]
 simp [Tryd.f47]

end Go.Proofs.YtpjkdaechknogaaDoor
end

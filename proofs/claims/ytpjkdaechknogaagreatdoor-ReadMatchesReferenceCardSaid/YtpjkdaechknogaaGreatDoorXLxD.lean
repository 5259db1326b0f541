import Derived.Test.YtpjkdaechknogaaGreatDoorPt
import Derived.Test.YtpjkdaechknogaaGreatDoorPvPa
import Derived.Test.YtpjkdaechknogaaGreatDoorPvX
import Derived.Test.YtpjkdaechknogaaGreatDoorXNaB
import Derived.Test.YtpjkdaechknogaaGreatDoorXShelf
section
/- Contracts: words, errors, lines. -/
set_option linter.all false
set_option maxHeartbeats 1000000
set_option maxRecDepth 10000
namespace Go.Proofs.YtpjkdaechknogaaGreatDoor
open Go Go.Pv
variable (g : Nat → Option (List AV)) (rnd : Bool)

theorem c_lex_word (s : Str) (hs : s.length ≤ 1000000) : Valid Tryz.prog (G0 g rnd) 38 [.str s] (.int .i64 (wordN s : Nat)) := by

 refine valid_of [] Tryz.func38 rfl (by kernel_rfl) ?_
 refine AT_seq_region fun K1 hK1 => ?_
 simp [Tryz.f38]
 repeat refine sgX ?_
 refine hK1 _ ?_
 clear hK1 K1
 refine AT_seq_region fun K2 hK2 => ?_
 simp
 repeat refine sgX ?_
 refine hK2 _ ?_
 clear hK2 K2
 refine AT_seq_k fun K3 hK3 => ?_
 refine AT_block ?_
 refine AT_loop_q [0,3] [] (fun j s1 => ∃ k, k ≤ s.length ∧ wordN s = k + wordN (s.drop k) ∧ j = s.length - k ∧ s1 = { n := 25, tm := [(0, .v (.str s) none), (3, .v (.int .i64 (k : Nat)) none)], bx := [], tb := [], sh := [], hint := [] }) (s.length) (by first | rfl | simp) ?_ ?_
 ·
  exact ⟨0, by simp⟩
 ·
  rintro j s1 ⟨k, hk, hc, rfl, rfl⟩ K4 hK4
  refine AT_seq_k fun K5 hK5 => ?_
  by_cases hks : k < s.length
  ·
   have hda := List.drop_eq_getElem_cons hks
   by_cases h1 : 1 ≤ clsI s[k].toNat
   ·
    by_cases h2 : clsI s[k].toNat ≤ 3
    ·
     refine AT_seq_region fun K6 hK6 => ?_
     simp [hks, h1, h2]
     repeat refine sgX ?_
     try (
      refine RVn_call (c_name_Class g rnd _) ?_
      simp [hks, h1, h2]
      repeat refine sgX ?_)
     try (
      refine RVn_call (c_name_Class g rnd _) ?_
      simp [hks, h1, h2]
      repeat refine sgX ?_)
     refine hK6 _ ?_
     clear hK6 K6
     refine AT_cond (b := true) (g := none) (by simp [hks, h1, h2]) (fun hb => ?_) (fun hb => ?_)
     ·
      clear hb
      refine AT_skip ?_
      try simp only [nrm, reduceIte, Nat.reduceEqDiff]
      refine hK5 _ ?_
      refine AT_block ?_
      refine AT_region_q fun K7 hK7 => ?_
      simp [hks, h1, h2]
      repeat refine sgX ?_
      refine hK7 _ ?_
      clear hK7 K7
      try simp only [nrm, reduceIte, Nat.reduceEqDiff]
      refine hK4 _ (by first | rfl | simp) (s.length - (k+1)) (by omega) ?_
      refine ⟨k+1, by omega, ?_, by omega, by simp⟩
      rw [hc, hda, wordN_cons, if_pos (by simp [wc, h1, h2])]; omega
     ·
      cases hb
    ·
     refine AT_seq_region fun K8 hK8 => ?_
     simp [hks, h1, h2]
     repeat refine sgX ?_
     try (
      refine RVn_call (c_name_Class g rnd _) ?_
      simp [hks, h1, h2]
      repeat refine sgX ?_)
     try (
      refine RVn_call (c_name_Class g rnd _) ?_
      simp [hks, h1, h2]
      repeat refine sgX ?_)
     refine hK8 _ ?_
     clear hK8 K8
     refine AT_cond (b := false) (g := none) (by simp [hks, h1, h2]) (fun hb => ?_) (fun hb => ?_)
     ·
      cases hb
     ·
      clear hb
      refine AT_exit ?_
      try simp only [nrm, reduceIte, Nat.reduceEqDiff]
      refine hK3 _ ?_
      refine AT_seq_region fun K9 hK9 => ?_
      simp [hks, h1, h2]
      repeat refine sgX ?_
      refine hK9 _ ?_
      clear hK9 K9
      refine AT_ret ?_
      simp [Tryz.f38]
      first
      | (rw [hc, hda, wordN_cons]; simp [wc, h1]; done)
      | (rw [hc, hda, wordN_cons]; simp [wc, h1, h2]; done)
      | (rw [hc, List.drop_eq_nil_of_le (by omega)]; simp [wordN]; done)
   ·
    refine AT_seq_region fun K10 hK10 => ?_
    simp [hks, h1]
    repeat refine sgX ?_
    try (
     refine RVn_call (c_name_Class g rnd _) ?_
     simp [hks, h1]
     repeat refine sgX ?_)
    try (
     refine RVn_call (c_name_Class g rnd _) ?_
     simp [hks, h1]
     repeat refine sgX ?_)
    refine hK10 _ ?_
    clear hK10 K10
    refine AT_cond (b := false) (g := none) (by simp [hks, h1]) (fun hb => ?_) (fun hb => ?_)
    ·
     cases hb
    ·
     clear hb
     refine AT_exit ?_
     try simp only [nrm, reduceIte, Nat.reduceEqDiff]
     refine hK3 _ ?_
     refine AT_seq_region fun K11 hK11 => ?_
     simp [hks, h1]
     repeat refine sgX ?_
     refine hK11 _ ?_
     clear hK11 K11
     refine AT_ret ?_
     simp [Tryz.f38]
     first
     | (rw [hc, hda, wordN_cons]; simp [wc, h1]; done)
     | (rw [hc, hda, wordN_cons]; simp [wc, h1, h2]; done)
     | (rw [hc, List.drop_eq_nil_of_le (by omega)]; simp [wordN]; done)
  ·
   refine AT_seq_region fun K12 hK12 => ?_
   simp [hks]
   repeat refine sgX ?_
   try (
    refine RVn_call (c_name_Class g rnd _) ?_
    simp [hks]
    repeat refine sgX ?_)
   try (
    refine RVn_call (c_name_Class g rnd _) ?_
    simp [hks]
    repeat refine sgX ?_)
   refine hK12 _ ?_
   clear hK12 K12
   refine AT_cond (b := false) (g := none) (by simp [hks]) (fun hb => ?_) (fun hb => ?_)
   ·
    cases hb
   ·
    clear hb
    refine AT_exit ?_
    try simp only [nrm, reduceIte, Nat.reduceEqDiff]
    refine hK3 _ ?_
    refine AT_seq_region fun K13 hK13 => ?_
    simp [hks]
    repeat refine sgX ?_
    refine hK13 _ ?_
    clear hK13 K13
    refine AT_ret ?_
    simp [Tryz.f38]
    first
    | (rw [hc, hda, wordN_cons]; simp [wc, h1]; done)
    | (rw [hc, hda, wordN_cons]; simp [wc, h1, h2]; done)
    | (rw [hc, List.drop_eq_nil_of_le (by omega)]; simp [wordN]; done)

theorem c_fault_New (c n : Int) : Valid Tryz.prog (G0 g rnd) 33 [.int .i64 c, .int .i64 n] (.iface 108 (.agg [.int .i64 c, .int .i64 n])) := by

 refine valid_of [] Tryz.func33 rfl (by kernel_rfl) ?_
 refine AT_seq_region fun K1 hK1 => ?_
 simp [Tryz.f33]
 repeat refine sgX ?_
 refine hK1 _ ?_
 clear hK1 K1
 refine AT_seq_region fun K2 hK2 => ?_
 simp
 repeat refine sgX ?_
 refine hK2 _ ?_
 clear hK2 K2
 refine AT_ret ?_
 simp [Tryz.f33]

theorem c_internal_stringslite_HasPrefix (s p : Str) : Valid Tryz.prog (G0 g rnd) 65 [.str s, .str p] (.bool (Lib.hasPrefix s p)) :=
  valid_two (by kernel_rfl) (fun _ _ _ h => rep_str h) (fun _ _ _ h => rep_str h) (fun _ _ => .bool _) (fun w => Tryz.stringslite_HasPrefix ⟨s.toArray⟩ ⟨p.toArray⟩ w)

theorem c_strings_HasPrefix (s p : Str) : Valid Tryz.prog (G0 g rnd) 36 [.str s, .str p] (.bool (Lib.hasPrefix s p)) := by

 refine valid_of [] Tryz.func36 rfl (by kernel_rfl) ?_
 refine AT_seq_region fun K1 hK1 => ?_
 simp [Tryz.f36]
 repeat refine sgX ?_
 refine hK1 _ ?_
 clear hK1 K1
 refine AT_seq_region fun K2 hK2 => ?_
 simp
 repeat refine sgX ?_
 refine RVn_call (c_internal_stringslite_HasPrefix g rnd _ _) ?_
 simp
 repeat refine sgX ?_
 refine hK2 _ ?_
 clear hK2 K2
 refine AT_ret ?_
 simp [Tryz.f36]

theorem c_internal_stringslite_IndexByte (s : Str) (c : UInt8) : Valid Tryz.prog (G0 g rnd) 66 [.str s, .int .u8 c.toNat] (.int .i64 (Lib.indexByte s c)) :=
  valid_two (by kernel_rfl) (fun _ _ _ h => rep_str h) (fun _ _ _ h => rep_int h) (fun _ _ => .int _ _) (fun w => by
    have := Tryz.stringslite_IndexByte ⟨s.toArray⟩ c.toNat w
    simpa using this)

theorem c_strings_IndexByte (s : Str) (c : UInt8) : Valid Tryz.prog (G0 g rnd) 37 [.str s, .int .u8 c.toNat] (.int .i64 (Lib.indexByte s c)) := by

 refine valid_of [] Tryz.func37 rfl (by kernel_rfl) ?_
 refine AT_seq_region fun K1 hK1 => ?_
 simp [Tryz.f37]
 repeat refine sgX ?_
 refine hK1 _ ?_
 clear hK1 K1
 refine AT_seq_region fun K2 hK2 => ?_
 simp
 repeat refine sgX ?_
 refine RVn_call (c_internal_stringslite_IndexByte g rnd _ _) ?_
 simp
 repeat refine sgX ?_
 refine hK2 _ ?_
 clear hK2 K2
 refine AT_ret ?_
 simp [Tryz.f37]

end Go.Proofs.YtpjkdaechknogaaGreatDoor
end

section
/- Contracts: lex. -/
set_option linter.all false
set_option maxHeartbeats 1000000
set_option maxRecDepth 10000
namespace Go.Proofs.YtpjkdaechknogaaGreatDoor
open Go Go.Pv
variable (g : Nat → Option (List AV)) (rnd : Bool)

theorem c_lex_Tokens_1 (k n i : Int) (src : Str) (out : List (List AV)) (hs : src.length ≤ 65536) (hi : 0 ≤ i) (hn : 0 ≤ n) (hin : i + n ≤ src.length) (hout : Pv.Rows 3 out) (hol : out.length ≤ 65536) : ValidB Tryz.prog (G0 g rnd) 34 [.int .i64 k, .int .i64 n] [4, 1, 5] [(4, [.slice out]), (1, [.str src]), (5, [.int .i64 i])] [(4, 0, gid 4 0, 77)] (.tup []) [(5, [.int .i64 (i + n)]), (4, [.slice (out ++ [[.int .i64 k, .str ((src.take (i + n).toNat).drop i.toNat), .int .i64 i]])]), (4, [.slice out]), (1, [.str src]), (5, [.int .i64 i])] [(4, 0, gid 4 0, 77)] := by

 refine validB_of [] Tryz.func34 rfl (by kernel_rfl) (by simp) ?_
 refine AT_seq_draw Pt.mixed (by kernel_rfl) fun K1 hK1 => ?_
 simp [Tryz.f34]
 repeat (refine ⟨by first | omega | assumption | (constructor <;> first | assumption | omega) | (simp at *; omega), ?_⟩)
 refine hK1 _ ?_
 clear hK1 K1
 refine AT_region_q fun K2 hK2 => ?_
 simp
 repeat (refine ⟨by first | omega | assumption | (constructor <;> first | assumption | omega) | (simp at *; omega), ?_⟩)
 refine hK2 _ ?_
 clear hK2 K2
 try simp only [nrm, reduceIte, Nat.reduceEqDiff]
 simp [Tryz.f34]

end Go.Proofs.YtpjkdaechknogaaGreatDoor
end

section
/- Contracts: the reference. -/
set_option linter.all false
set_option maxHeartbeats 1000000
set_option maxRecDepth 10000
namespace Go.Proofs.YtpjkdaechknogaaGreatDoor
open Go Go.Pv
variable (g : Nat → Option (List AV)) (rnd : Bool)

theorem c_ref03x_sign (c : UInt8) : Valid Tryz.prog (G0 g rnd) 72 [.int .u8 c.toNat] (.bool (signs.contains c)) := by
 obtain ⟨sg, hsg⟩ : ∃ sg, sg = signs := ⟨_, rfl⟩
 have hsl : sg.length = 11 := by rw [hsg]; rfl
 rw [← hsg]
 refine valid_of [] Tryz.func72 rfl (by kernel_rfl) ?_
 refine AT_seq_region fun K1 hK1 => ?_
 simp [Tryz.f72]
 repeat refine sgX ?_
 refine hK1 _ ?_
 clear hK1 K1
 refine AT_seq_region fun K2 hK2 => ?_
 simp
 repeat refine sgX ?_
 refine hK2 _ ?_
 clear hK2 K2
 refine AT_seq_k fun K3 hK3 => ?_
 refine AT_seq_region fun K4 hK4 => ?_
 simp
 repeat refine sgX ?_
 refine hK4 _ ?_
 clear hK4 K4
 refine AT_block ?_
 refine AT_loop_q [0,3,4] [] (fun j s => ∃ k, k ≤ sg.length ∧ sg.contains c = (sg.drop k).contains c ∧ j = sg.length - k ∧ s = { n := 16, tm := [(0, .v (.int .u8 c.toNat) none), (3, .v (.str sg) none), (4, .v (.int .i64 (k : Nat)) none)], bx := [], tb := [], sh := [], hint := [] }) (sg.length) (by first | rfl | simp) ?_ ?_
 ·
  exact ⟨0, by simp [hsg, signs]⟩
 ·
  rintro j s ⟨k, hk, hc, rfl, rfl⟩ K5 hK5
  refine AT_seq_k fun K6 hK6 => ?_
  refine AT_seq_region fun K7 hK7 => ?_
  have hsg2 : ([40, 41, 91, 93, 123, 125, 46, 44, 59, 61, 95] : List UInt8) = sg := hsg.symm
  simp
  repeat refine sgX ?_
  refine hK7 _ ?_
  clear hK7 K7
  refine AT_cond (g := none) rfl (fun hb8 => ?_) (fun hb8 => ?_)
  ·
   try simp at hb8
   refine AT_skip ?_
   try simp only [nrm, reduceIte, Nat.reduceEqDiff]
   refine hK6 _ ?_
   refine AT_seq_k fun K8 hK8 => ?_
   refine AT_block ?_
   refine AT_seq_region fun K9 hK9 => ?_
   have hks : k < sg.length := by omega
   have hda := List.drop_eq_getElem_cons hks
   simp [hb8]
   repeat refine sgX ?_
   refine hK9 _ ?_
   clear hK9 K9
   refine AT_cond (g := none) rfl (fun hb15 => ?_) (fun hb15 => ?_)
   ·
    try simp [hb8] at hb15
    refine AT_seq_region fun K10 hK10 => ?_
    simp [hb8, hb15]
    repeat refine sgX ?_
    refine hK10 _ ?_
    clear hK10 K10
    refine AT_ret ?_
    simp [Tryz.f72]
    first
    | (have he := UInt8.toNat_inj.1 (Int.ofNat.inj hb15)
       rw [← he]
       exact List.getElem_mem _)
    | (intro hm
       rw [← List.contains_iff_mem, hc, List.drop_eq_nil_of_le hb8] at hm
       cases hm)
   ·
    try simp [hb8] at hb15
    refine AT_skip ?_
    try simp only [nrm, reduceIte, Nat.reduceEqDiff]
    refine hK8 _ ?_
    refine AT_region_q fun K11 hK11 => ?_
    simp [hb8, hb15]
    repeat refine sgX ?_
    refine hK11 _ ?_
    clear hK11 K11
    try simp only [nrm, reduceIte, Nat.reduceEqDiff]
    refine hK5 _ (by first | rfl | simp) (sg.length - (k+1)) (by omega) ?_
    refine ⟨k+1, by omega, ?_, by omega, by simp⟩
    have hne : (c == sg[k]) = false := by
      simp only [beq_eq_false_iff_ne, ne_eq]
      intro he
      exact hb15 (by rw [he])
    rw [hc, hda, List.contains_cons, hne, Bool.false_or]
  ·
   try simp at hb8
   refine AT_exit ?_
   try simp only [nrm, reduceIte, Nat.reduceEqDiff]
   refine hK3 _ ?_
   refine AT_seq_region fun K12 hK12 => ?_
   simp [hb8]
   repeat refine sgX ?_
   refine hK12 _ ?_
   clear hK12 K12
   refine AT_ret ?_
   simp [Tryz.f72]
   first
   | (have he := UInt8.toNat_inj.1 (Int.ofNat.inj hb15)
      rw [← he]
      exact List.getElem_mem _)
   | (intro hm
      rw [← List.contains_iff_mem, hc, List.drop_eq_nil_of_le hb8] at hm
      cases hm)

end Go.Proofs.YtpjkdaechknogaaGreatDoor
end

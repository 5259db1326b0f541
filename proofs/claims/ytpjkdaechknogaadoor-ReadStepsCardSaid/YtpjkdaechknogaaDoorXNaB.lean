/- Contracts. -/
import Derived.Test.YtpjkdaechknogaaDoorPt
import Derived.Test.YtpjkdaechknogaaDoorPvPb
import Derived.Test.YtpjkdaechknogaaDoorPvY
import Derived.Test.YtpjkdaechknogaaDoorXNaI
import Derived.Test.YtpjkdaechknogaaDoorXNaI
set_option linter.all false
set_option maxHeartbeats 1000000
set_option maxRecDepth 10000
namespace Go.Proofs.YtpjkdaechknogaaDoor
open Go Go.Pv
variable (g : Nat → Option (List AV)) (rnd : Bool)

theorem c_name_Is_1 (n : Int) (h0 : 0 ≤ n) : Valid Tryd.prog (G0 g rnd) 67 [.int .i32 n] (.bool (wrR n)) := by

 refine valid_of [] Tryd.func67 rfl (by kernel_rfl) ?_
 by_cases h127 : 127 < n
 ·
  refine AT_seq_region fun K1 hK1 => ?_
  simp [Tryd.f67, h127]
  repeat refine sg ?_
  refine hK1 _ ?_
  clear hK1 K1
  refine AT_seq_region fun K2 hK2 => ?_
  simp [h127]
  repeat refine sg ?_
  try (
   refine RVn_call (c_name_Class g rnd n) ?_
   simp [h127]
   repeat refine sg ?_)
  try (
   refine RVn_call (c_name_Class g rnd n) ?_
   simp [h127]
   repeat refine sg ?_)
  refine hK2 _ ?_
  clear hK2 K2
  refine AT_ret ?_
  simp [Tryd.f67]
  simp [wrR, *]
 ·
  have hw : IntKind.u8.wrap n = n := by rw [IntKind.wrap_u8]; omega
  by_cases h1 : clsI n < 1
  ·
   refine AT_seq_region fun K3 hK3 => ?_
   simp [h127, hw, h1]
   repeat refine sg ?_
   refine hK3 _ ?_
   clear hK3 K3
   refine AT_seq_region fun K4 hK4 => ?_
   simp [h127, hw, h1]
   repeat refine sg ?_
   try (
    refine RVn_call (c_name_Class g rnd n) ?_
    simp [h127, hw, h1]
    repeat refine sg ?_)
   try (
    refine RVn_call (c_name_Class g rnd n) ?_
    simp [h127, hw, h1]
    repeat refine sg ?_)
   refine hK4 _ ?_
   clear hK4 K4
   refine AT_ret ?_
   simp [Tryd.f67]
   simp [wrR, *]
  ·
   refine AT_seq_region fun K5 hK5 => ?_
   simp [h127, hw, h1]
   repeat refine sg ?_
   refine hK5 _ ?_
   clear hK5 K5
   refine AT_seq_region fun K6 hK6 => ?_
   simp [h127, hw, h1]
   repeat refine sg ?_
   try (
    refine RVn_call (c_name_Class g rnd n) ?_
    simp [h127, hw, h1]
    repeat refine sg ?_)
   try (
    refine RVn_call (c_name_Class g rnd n) ?_
    simp [h127, hw, h1]
    repeat refine sg ?_)
   refine hK6 _ ?_
   clear hK6 K6
   refine AT_ret ?_
   simp [Tryd.f67]
   simp [wrR, *]

theorem c_strings_indexFunc (s : Str) (hs : s.length ≤ 1099511627776) : Valid Tryd.prog (G0 g rnd) 86 [.str s, .func 67 [], .bool true] (.int .i64 (badI s 0)) := by

 refine valid_of [] Tryd.func86 rfl (by kernel_rfl) ?_
 refine AT_seq_region fun K1 hK1 => ?_
 simp [Tryd.f86]
 repeat refine sg ?_
 refine hK1 _ ?_
 clear hK1 K1
 refine AT_seq_k fun K2 hK2 => ?_
 refine AT_seq_region fun K3 hK3 => ?_
 simp
 repeat refine sg ?_
 refine hK3 _ ?_
 clear hK3 K3
 refine AT_block ?_
 refine AT_loop_q [1,2,10] [] (fun j st => ∃ k, k ≤ s.length ∧ badI s 0 = badI (s.drop k) k ∧ j = s.length - k ∧ st = { n := 21, tm := [(1, .v (.func 67 []) none), (2, .v (.bool true) none), (10, .it s k)], bx := [], tb := [], sh := [], hint := [] }) (s.length) (by first | rfl | simp) ?_ ?_
 ·
  exact ⟨0, by simp⟩
 ·
  rintro j st ⟨k, hk, hc, rfl, rfl⟩ K4 hK4
  by_cases hk2 : k < s.length
  ·
   have hbd := badI_drop s k k hk2
   by_cases hgb : goodB s[k] = true
   ·
    have hda := dec_ascii s k hk2 (good_ascii hgb)
    have hwr := good_wr hgb
    refine AT_seq_region fun K5 hK5 => ?_
    simp [hk2, hda, hwr]
    repeat refine sg ?_
    refine hK5 _ ?_
    clear hK5 K5
    refine AT_seq_k fun K6 hK6 => ?_
    refine AT_cond (b := true) (g := none) (by simp [hk2, hda, hwr]) (fun hb => ?_) (fun hb => ?_)
    ·
     clear hb
     refine AT_skip ?_
     try simp only [nrm, reduceIte, Nat.reduceEqDiff]
     refine hK6 _ ?_
     refine AT_block ?_
     refine AT_seq_region fun K7 hK7 => ?_
     simp [hk2, hda, hwr]
     repeat refine sg ?_
     refine hK7 _ ?_
     clear hK7 K7
     refine AT_seq_region fun K8 hK8 => ?_
     simp [hk2, hda, hwr]
     repeat refine sg ?_
     refine RVn_call (c_name_Is_1 g rnd _ (by omega)) ?_
     simp [hk2, hda, hwr]
     repeat refine sg ?_
     refine hK8 _ ?_
     clear hK8 K8
     refine AT_cond (b := false) (g := none) (by simp [hk2, hda, hwr]) (fun hb => ?_) (fun hb => ?_)
     ·
      cases hb
     ·
      clear hb
      refine AT_skip ?_
      try simp only [nrm, reduceIte, Nat.reduceEqDiff]
      refine hK4 _ (by first | rfl | simp) (s.length - (k+1)) (by omega) ?_
      refine ⟨k+1, by omega, ?_, by omega, by simp⟩
      rw [hc, hbd, if_pos hgb]
    ·
     cases hb
   ·
    obtain ⟨rr, qq, hda, hwr⟩ := dec_bad s k hk2 (by simpa using hgb)
    refine AT_seq_region fun K9 hK9 => ?_
    simp [hk2, hda, hwr]
    repeat refine sg ?_
    refine hK9 _ ?_
    clear hK9 K9
    refine AT_seq_k fun K10 hK10 => ?_
    refine AT_cond (b := true) (g := none) (by simp [hk2, hda, hwr]) (fun hb => ?_) (fun hb => ?_)
    ·
     clear hb
     refine AT_skip ?_
     try simp only [nrm, reduceIte, Nat.reduceEqDiff]
     refine hK10 _ ?_
     refine AT_block ?_
     refine AT_seq_region fun K11 hK11 => ?_
     simp [hk2, hda, hwr]
     repeat refine sg ?_
     refine hK11 _ ?_
     clear hK11 K11
     refine AT_seq_region fun K12 hK12 => ?_
     simp [hk2, hda, hwr]
     repeat refine sg ?_
     refine RVn_call (c_name_Is_1 g rnd _ (by omega)) ?_
     simp [hk2, hda, hwr]
     repeat refine sg ?_
     refine hK12 _ ?_
     clear hK12 K12
     refine AT_cond (b := true) (g := none) (by simp [hk2, hda, hwr]) (fun hb => ?_) (fun hb => ?_)
     ·
      clear hb
      refine AT_seq_region fun K13 hK13 => ?_
      simp [hk2, hda, hwr]
      repeat refine sg ?_
      refine hK13 _ ?_
      clear hK13 K13
      refine AT_ret ?_
      simp [Tryd.f86]
      first | (rw [hc, hbd, if_neg hgb]) | (rw [hc, List.drop_eq_nil_of_le (by omega)]; rfl)
     ·
      cases hb
    ·
     cases hb
  ·
   refine AT_seq_region fun K14 hK14 => ?_
   simp [hk2]
   repeat refine sg ?_
   refine hK14 _ ?_
   clear hK14 K14
   refine AT_seq_k fun K15 hK15 => ?_
   refine AT_cond (b := false) (g := none) (by simp [hk2]) (fun hb => ?_) (fun hb => ?_)
   ·
    cases hb
   ·
    clear hb
    refine AT_exit ?_
    try simp only [nrm, reduceIte, Nat.reduceEqDiff]
    refine hK2 _ ?_
    refine AT_seq_region fun K16 hK16 => ?_
    simp [hk2]
    repeat refine sg ?_
    refine hK16 _ ?_
    clear hK16 K16
    refine AT_ret ?_
    simp [Tryd.f86]
    first | (rw [hc, hbd, if_neg hgb]) | (rw [hc, List.drop_eq_nil_of_le (by omega)]; rfl)

theorem c_strings_IndexFunc (s : Str) (hs : s.length ≤ 1099511627776) : Valid Tryd.prog (G0 g rnd) 77 [.str s, .func 67 []] (.int .i64 (badI s 0)) := by

 refine valid_of [] Tryd.func77 rfl (by kernel_rfl) ?_
 refine AT_seq_region fun K1 hK1 => ?_
 simp [Tryd.f77]
 repeat refine sg ?_
 refine hK1 _ ?_
 clear hK1 K1
 refine AT_seq_region fun K2 hK2 => ?_
 simp
 repeat refine sg ?_
 refine RVn_call (c_strings_indexFunc g rnd s hs) ?_
 simp
 repeat refine sg ?_
 refine hK2 _ ?_
 clear hK2 K2
 refine AT_ret ?_
 simp [Tryd.f77]

theorem c_strings_ContainsFunc (s : Str) (hs : s.length ≤ 1099511627776) : Valid Tryd.prog (G0 g rnd) 68 [.str s, .func 67 []] (.bool (!s.all goodB)) := by

 refine valid_of [] Tryd.func68 rfl (by kernel_rfl) ?_
 refine AT_seq_region fun K1 hK1 => ?_
 simp [Tryd.f68]
 repeat refine sg ?_
 refine hK1 _ ?_
 clear hK1 K1
 refine AT_seq_region fun K2 hK2 => ?_
 simp
 repeat refine sg ?_
 refine RVn_call (c_strings_IndexFunc g rnd s hs) ?_
 simp
 repeat refine sg ?_
 refine hK2 _ ?_
 clear hK2 K2
 refine AT_ret ?_
 simp [Tryd.f68]
 exact badI_neg s 0

theorem c_slices_Contains_string_string (l : List Str) (x : Str) (hl : l.length ≤ 140737488355328) : Valid Tryd.prog (G0 g rnd) 78 [.slice (l.map encS), .str x] (.bool (l.contains x)) := by

 refine valid_of [] Tryd.func78 rfl (by kernel_rfl) ?_
 refine AT_seq_region fun K1 hK1 => ?_
 simp [Tryd.f78]
 repeat refine sg ?_
 refine hK1 _ ?_
 clear hK1 K1
 refine AT_seq_region fun K2 hK2 => ?_
 simp
 repeat refine sg ?_
 refine RVn_call (c_slices_Index_string_string g rnd l x hl) ?_
 simp
 repeat refine sg ?_
 refine hK2 _ ?_
 clear hK2 K2
 refine AT_ret ?_
 simp [Tryd.f78]
 exact idxF_mem l x 0

theorem c_name_Reserved (s : Str) (hres : g 0 = some reservedA) : Valid Tryd.prog (G0 g rnd) 69 [.str s] (.bool (isRes s)) := by

 refine valid_of [] Tryd.func69 rfl (by kernel_rfl) ?_
 refine AT_seq_region fun K1 hK1 => ?_
 simp [hres, Tryd.f69]
 repeat refine sg ?_
 refine hK1 _ ?_
 clear hK1 K1
 refine AT_seq_region fun K2 hK2 => ?_
 simp [hres]
 repeat refine sg ?_
 refine RVn_call (c_slices_Contains_string_string g rnd reservedL s (by decide)) ?_
 simp [hres]
 repeat refine sg ?_
 refine hK2 _ ?_
 clear hK2 K2
 refine AT_ret ?_
 simp [hres, Tryd.f69]
 simp [isRes]

theorem c_name_Is (s : Str) (hs : s.length ≤ 1099511627776) (hres : g 0 = some reservedA) : Valid Tryd.prog (G0 g rnd) 53 [.str s] (.bool (isName s)) := by

 refine valid_of [] Tryd.func53 rfl (by kernel_rfl) ?_
 refine AT_seq_region fun K1 hK1 => ?_
 simp [Tryd.f53]
 repeat refine sg ?_
 refine hK1 _ ?_
 clear hK1 K1
 refine AT_seq_region fun K2 hK2 => ?_
 simp
 repeat refine sg ?_
 refine hK2 _ ?_
 clear hK2 K2
 rcases s with _ | ⟨b, r⟩
 ·
  refine AT_seq_region fun K3 hK3 => ?_
  simp
  repeat refine sg ?_
  try (
   refine RVn_call (c_name_Class g rnd _) ?_
   simp
   repeat refine sg ?_)
  try (
   refine RVn_call (c_strings_ContainsFunc g rnd _ hs) ?_
   simp
   repeat refine sg ?_)
  try (
   refine RVn_call (c_name_Reserved g rnd _ hres) ?_
   simp
   repeat refine sg ?_)
  refine hK3 _ ?_
  clear hK3 K3
  refine AT_ret ?_
  simp [Tryd.f53]
  first | rfl | (simp [isName, hc, hga]; done) | (simp only [isName, List.all_cons, hga]; simp [hc]; done) | (simp [isName, hcb]; done)
 ·
  by_cases hc : clsI (b.toNat : Int) = 1
  ·
   cases hga : (goodB b && r.all goodB)
   ·
    refine AT_seq_region fun K4 hK4 => ?_
    simp [hc, hga]
    repeat refine sg ?_
    try (
     refine RVn_call (c_name_Class g rnd _) ?_
     simp [hc, hga]
     repeat refine sg ?_)
    try (
     refine RVn_call (c_strings_ContainsFunc g rnd _ hs) ?_
     simp [hc, hga]
     repeat refine sg ?_)
    try (
     refine RVn_call (c_name_Reserved g rnd _ hres) ?_
     simp [hc, hga]
     repeat refine sg ?_)
    refine hK4 _ ?_
    clear hK4 K4
    refine AT_ret ?_
    simp [Tryd.f53]
    first | rfl | (simp [isName, hc, hga]; done) | (simp only [isName, List.all_cons, hga]; simp [hc]; done) | (simp [isName, hcb]; done)
   ·
    refine AT_seq_region fun K5 hK5 => ?_
    simp [hc, hga]
    repeat refine sg ?_
    try (
     refine RVn_call (c_name_Class g rnd _) ?_
     simp [hc, hga]
     repeat refine sg ?_)
    try (
     refine RVn_call (c_strings_ContainsFunc g rnd _ hs) ?_
     simp [hc, hga]
     repeat refine sg ?_)
    try (
     refine RVn_call (c_name_Reserved g rnd _ hres) ?_
     simp [hc, hga]
     repeat refine sg ?_)
    refine hK5 _ ?_
    clear hK5 K5
    refine AT_ret ?_
    simp [Tryd.f53]
    first | rfl | (simp [isName, hc, hga]; done) | (simp only [isName, List.all_cons, hga]; simp [hc]; done) | (simp [isName, hcb]; done)
  ·
   have hcb : (clsI (b.toNat : Int) == 1) = false := by simpa using hc
   refine AT_seq_region fun K6 hK6 => ?_
   simp [hcb]
   repeat refine sg ?_
   try (
    refine RVn_call (c_name_Class g rnd _) ?_
    simp [hcb]
    repeat refine sg ?_)
   try (
    refine RVn_call (c_strings_ContainsFunc g rnd _ hs) ?_
    simp [hcb]
    repeat refine sg ?_)
   try (
    refine RVn_call (c_name_Reserved g rnd _ hres) ?_
    simp [hcb]
    repeat refine sg ?_)
   refine hK6 _ ?_
   clear hK6 K6
   refine AT_ret ?_
   simp [Tryd.f53]
   first | rfl | (simp [isName, hc, hga]; done) | (simp only [isName, List.all_cons, hga]; simp [hc]; done) | (simp [isName, hcb]; done)

theorem c_ref01x_Reserved (s : Str) : Valid Tryd.prog (G0 g rnd) 60 [.str s] (.bool (isRes s)) := by

 refine valid_of [] Tryd.func60 rfl (by kernel_rfl) ?_
 by_cases h1 : s ∈ reservedL
 ·
  have hr : isRes s = true := by simp [isRes, h1]
  simp only [reservedL, List.mem_cons, List.not_mem_nil, or_false] at h1
  rcases h1 with rfl | rfl | rfl | rfl | rfl | rfl | rfl
  ·
   refine AT_seq_region fun K1 hK1 => ?_
   simp [Tryd.f60]
   repeat refine sg ?_
   refine hK1 _ ?_
   clear hK1 K1
   refine AT_seq_k fun K2 hK2 => ?_
   refine AT_seq_region fun K3 hK3 => ?_
   simp
   repeat refine sg ?_
   refine hK3 _ ?_
   clear hK3 K3
   refine AT_cond (b := true) (g := none) (by simp) (fun hb => ?_) (fun hb => ?_)
   ·
    clear hb
    refine AT_seq_region fun K4 hK4 => ?_
    simp
    repeat refine sg ?_
    refine hK4 _ ?_
    clear hK4 K4
    refine AT_ret ?_
    simp [Tryd.f60]
    first | exact hr.symm | (simp [hr]; done) | (rw [hr]; simp; done)
   ·
    cases hb
  ·
   refine AT_seq_region fun K5 hK5 => ?_
   simp
   repeat refine sg ?_
   refine hK5 _ ?_
   clear hK5 K5
   refine AT_seq_k fun K6 hK6 => ?_
   refine AT_seq_region fun K7 hK7 => ?_
   simp
   repeat refine sg ?_
   refine hK7 _ ?_
   clear hK7 K7
   refine AT_cond (b := true) (g := none) (by simp) (fun hb => ?_) (fun hb => ?_)
   ·
    clear hb
    refine AT_seq_region fun K8 hK8 => ?_
    simp
    repeat refine sg ?_
    refine hK8 _ ?_
    clear hK8 K8
    refine AT_ret ?_
    simp [Tryd.f60]
    first | exact hr.symm | (simp [hr]; done) | (rw [hr]; simp; done)
   ·
    cases hb
  ·
   refine AT_seq_region fun K9 hK9 => ?_
   simp
   repeat refine sg ?_
   refine hK9 _ ?_
   clear hK9 K9
   refine AT_seq_k fun K10 hK10 => ?_
   refine AT_seq_region fun K11 hK11 => ?_
   simp
   repeat refine sg ?_
   refine hK11 _ ?_
   clear hK11 K11
   refine AT_cond (b := true) (g := none) (by simp) (fun hb => ?_) (fun hb => ?_)
   ·
    clear hb
    refine AT_seq_region fun K12 hK12 => ?_
    simp
    repeat refine sg ?_
    refine hK12 _ ?_
    clear hK12 K12
    refine AT_ret ?_
    simp [Tryd.f60]
    first | exact hr.symm | (simp [hr]; done) | (rw [hr]; simp; done)
   ·
    cases hb
  ·
   refine AT_seq_region fun K13 hK13 => ?_
   simp
   repeat refine sg ?_
   refine hK13 _ ?_
   clear hK13 K13
   refine AT_seq_k fun K14 hK14 => ?_
   refine AT_seq_region fun K15 hK15 => ?_
   simp
   repeat refine sg ?_
   refine hK15 _ ?_
   clear hK15 K15
   refine AT_cond (b := true) (g := none) (by simp) (fun hb => ?_) (fun hb => ?_)
   ·
    clear hb
    refine AT_seq_region fun K16 hK16 => ?_
    simp
    repeat refine sg ?_
    refine hK16 _ ?_
    clear hK16 K16
    refine AT_ret ?_
    simp [Tryd.f60]
    first | exact hr.symm | (simp [hr]; done) | (rw [hr]; simp; done)
   ·
    cases hb
  ·
   refine AT_seq_region fun K17 hK17 => ?_
   simp
   repeat refine sg ?_
   refine hK17 _ ?_
   clear hK17 K17
   refine AT_seq_k fun K18 hK18 => ?_
   refine AT_seq_region fun K19 hK19 => ?_
   simp
   repeat refine sg ?_
   refine hK19 _ ?_
   clear hK19 K19
   refine AT_cond (b := false) (g := none) (by simp) (fun hb => ?_) (fun hb => ?_)
   ·
    cases hb
   ·
    clear hb
    refine AT_skip ?_
    try simp only [nrm, reduceIte, Nat.reduceEqDiff]
    refine hK18 _ ?_
    refine AT_seq_region fun K20 hK20 => ?_
    simp
    repeat refine sg ?_
    refine hK20 _ ?_
    clear hK20 K20
    refine AT_ret ?_
    simp [Tryd.f60]
    first | exact hr.symm | (simp [hr]; done) | (rw [hr]; simp; done)
  ·
   refine AT_seq_region fun K21 hK21 => ?_
   simp
   repeat refine sg ?_
   refine hK21 _ ?_
   clear hK21 K21
   refine AT_seq_k fun K22 hK22 => ?_
   refine AT_seq_region fun K23 hK23 => ?_
   simp
   repeat refine sg ?_
   refine hK23 _ ?_
   clear hK23 K23
   refine AT_cond (b := false) (g := none) (by simp) (fun hb => ?_) (fun hb => ?_)
   ·
    cases hb
   ·
    clear hb
    refine AT_skip ?_
    try simp only [nrm, reduceIte, Nat.reduceEqDiff]
    refine hK22 _ ?_
    refine AT_seq_region fun K24 hK24 => ?_
    simp
    repeat refine sg ?_
    refine hK24 _ ?_
    clear hK24 K24
    refine AT_ret ?_
    simp [Tryd.f60]
    first | exact hr.symm | (simp [hr]; done) | (rw [hr]; simp; done)
  ·
   refine AT_seq_region fun K25 hK25 => ?_
   simp
   repeat refine sg ?_
   refine hK25 _ ?_
   clear hK25 K25
   refine AT_seq_k fun K26 hK26 => ?_
   refine AT_seq_region fun K27 hK27 => ?_
   simp
   repeat refine sg ?_
   refine hK27 _ ?_
   clear hK27 K27
   refine AT_cond (b := false) (g := none) (by simp) (fun hb => ?_) (fun hb => ?_)
   ·
    cases hb
   ·
    clear hb
    refine AT_skip ?_
    try simp only [nrm, reduceIte, Nat.reduceEqDiff]
    refine hK26 _ ?_
    refine AT_seq_region fun K28 hK28 => ?_
    simp
    repeat refine sg ?_
    refine hK28 _ ?_
    clear hK28 K28
    refine AT_ret ?_
    simp [Tryd.f60]
    first | exact hr.symm | (simp [hr]; done) | (rw [hr]; simp; done)
 ·
  have hr : isRes s = false := by simp [isRes, h1]
  simp only [reservedL, List.mem_cons, List.not_mem_nil, or_false, not_or] at h1
  obtain ⟨q1, q2, q3, q4, q5, q6, q7⟩ := h1
  have e1 : (s == [112, 97, 99, 107, 97, 103, 101]) = false := by simpa using q1
  have e2 : (s == [109, 97, 105, 110]) = false := by simpa using q2
  have e3 : (s == [116, 121, 112, 101]) = false := by simpa using q3
  have e4 : (s == [115, 116, 114, 117, 99, 116]) = false := by simpa using q4
  have e5 : (s == [105, 110, 116, 101, 114, 102, 97, 99, 101]) = false := by simpa using q5
  have e6 : (s == [102, 117, 110, 99]) = false := by simpa using q6
  have e7 : (s == [114, 101, 116, 117, 114, 110]) = false := by simpa using q7
  refine AT_seq_region fun K29 hK29 => ?_
  simp [e1, e2, e3, e4, e5, e6, e7]
  repeat refine sg ?_
  refine hK29 _ ?_
  clear hK29 K29
  refine AT_seq_k fun K30 hK30 => ?_
  refine AT_seq_region fun K31 hK31 => ?_
  simp [e1, e2, e3, e4, e5, e6, e7]
  repeat refine sg ?_
  refine hK31 _ ?_
  clear hK31 K31
  refine AT_cond (b := false) (g := none) (by simp [e1, e2, e3, e4, e5, e6, e7]) (fun hb => ?_) (fun hb => ?_)
  ·
   cases hb
  ·
   clear hb
   refine AT_skip ?_
   try simp only [nrm, reduceIte, Nat.reduceEqDiff]
   refine hK30 _ ?_
   refine AT_seq_region fun K32 hK32 => ?_
   simp [e1, e2, e3, e4, e5, e6, e7]
   repeat refine sg ?_
   refine hK32 _ ?_
   clear hK32 K32
   refine AT_ret ?_
   simp [Tryd.f60]
   first | exact hr.symm | (simp [hr]; done) | (rw [hr]; simp; done)

theorem c_ref01x_Is (s : Str) (hs : s.length ≤ 1099511627776) : Valid Tryd.prog (G0 g rnd) 37 [.str s] (.bool (isName s)) := by

 refine valid_of [] Tryd.func37 rfl (by kernel_rfl) ?_
 refine AT_seq_region fun K1 hK1 => ?_
 simp [Tryd.f37]
 repeat (refine ⟨by first | omega | exact List.ne_nil_of_length_pos hp | (simp at *; omega), ?_⟩)
 refine hK1 _ ?_
 clear hK1 K1
 refine AT_seq_k fun K2 hK2 => ?_
 rcases Nat.eq_zero_or_pos s.length with hp | hp
 ·
  have hlb : ((s.length : Int) == 0) = true := by simpa using hp
  refine AT_seq_region fun K3 hK3 => ?_
  simp [hlb]
  repeat (refine ⟨by first | omega | exact List.ne_nil_of_length_pos hp | (simp at *; omega), ?_⟩)
  try (
   refine RVn_call (c_ref01x_Class g rnd _) ?_
   simp [hlb]
   repeat (refine ⟨by first | omega | exact List.ne_nil_of_length_pos hp | (simp at *; omega), ?_⟩))
  refine hK3 _ ?_
  clear hK3 K3
  refine AT_cond (b := true) (g := none) (by simp [hlb]) (fun hb => ?_) (fun hb => ?_)
  ·
   clear hb
   refine AT_seq_region fun K4 hK4 => ?_
   simp [hlb]
   repeat (refine ⟨by first | omega | exact List.ne_nil_of_length_pos hp | (simp at *; omega), ?_⟩)
   refine hK4 _ ?_
   clear hK4 K4
   refine AT_ret ?_
   simp [Tryd.f37]
   first
   | (have : s = [] := List.eq_nil_of_length_eq_zero hp
      subst this; rfl)
   | exact isName_first hp hc
   | exact isName_bad (by rw [hbi, hbd, if_neg (by simp [hgb])]; omega)
   | exact (isName_good hp hc (by rw [hbi, List.drop_eq_nil_of_le (by omega)]; rfl)).symm
   | (have := isName_good hp hc (by rw [hbi, List.drop_eq_nil_of_le (by omega)]; rfl); rw [this]; simp)
  ·
   cases hb
 ·
  have hlb : ((s.length : Int) == 0) = false := beq_eq_false_iff_ne.2 (by omega)
  by_cases hc : clsI (s[0].toNat : Int) = 1
  ·
   refine AT_seq_region fun K5 hK5 => ?_
   simp [hlb, hp, hc]
   repeat (refine ⟨by first | omega | exact List.ne_nil_of_length_pos hp | (simp at *; omega), ?_⟩)
   try (
    refine RVn_call (c_ref01x_Class g rnd _) ?_
    simp [hlb, hp, hc]
    repeat (refine ⟨by first | omega | exact List.ne_nil_of_length_pos hp | (simp at *; omega), ?_⟩))
   refine hK5 _ ?_
   clear hK5 K5
   refine AT_cond (b := false) (g := none) (by simp [hlb, hp, hc]) (fun hb => ?_) (fun hb => ?_)
   ·
    cases hb
   ·
    clear hb
    refine AT_skip ?_
    try simp only [nrm, reduceIte, Nat.reduceEqDiff]
    refine hK2 _ ?_
    refine AT_seq_k fun K6 hK6 => ?_
    refine AT_seq_region fun K7 hK7 => ?_
    simp [hlb, hp, hc]
    repeat (refine ⟨by first | omega | exact List.ne_nil_of_length_pos hp | (simp at *; omega), ?_⟩)
    refine hK7 _ ?_
    clear hK7 K7
    refine AT_block ?_
    refine AT_loop_q [0,3] [] (fun j st => ∃ k, k ≤ s.length ∧ badI s 0 = badI (s.drop k) k ∧ j = s.length - k ∧ st = { n := 33, tm := [(0, .v (.str s) none), (3, .v (.int .i64 k) none)], bx := [], tb := [], sh := [], hint := [] }) (s.length) (by first | rfl | simp) ?_ ?_
    ·
     exact ⟨0, by simp⟩
    ·
     rintro j st ⟨k, hk, hbi, rfl, rfl⟩ K8 hK8
     refine AT_seq_k fun K9 hK9 => ?_
     refine AT_seq_region fun K10 hK10 => ?_
     simp [hlb, hp, hc]
     repeat (refine ⟨by first | omega | exact List.ne_nil_of_length_pos hp | (simp at *; omega), ?_⟩)
     refine hK10 _ ?_
     clear hK10 K10
     refine AT_cond (g := none) rfl (fun hb17 => ?_) (fun hb17 => ?_)
     ·
      try simp [hlb, hp, hc] at hb17
      refine AT_skip ?_
      try simp only [nrm, reduceIte, Nat.reduceEqDiff]
      refine hK9 _ ?_
      refine AT_seq_k fun K11 hK11 => ?_
      refine AT_block ?_
      refine AT_seq_region fun K12 hK12 => ?_
      have hk17 : k < s.length := by omega
      have hbd := badI_drop s k k hk17
      simp [hlb, hp, hc, hb17]
      repeat (refine ⟨by first | omega | exact List.ne_nil_of_length_pos hp | (simp at *; omega), ?_⟩)
      refine RVn_call (c_ref01x_Class g rnd _) ?_
      simp [hlb, hp, hc, hb17]
      repeat (refine ⟨by first | omega | exact List.ne_nil_of_length_pos hp | (simp at *; omega), ?_⟩)
      refine hK12 _ ?_
      clear hK12 K12
      cases hgb : goodB (s[k])
      ·
       have hgc := hgb
       simp only [goodB, Bool.and_eq_false_iff, decide_eq_false_iff_not] at hgc
       by_cases h0 : clsI (s[k].toNat : Int) = 0
       ·
        have h0b : (clsI (s[k].toNat : Int) == 0) = true := by simpa using h0
        refine AT_seq_region fun K13 hK13 => ?_
        simp [hlb, hp, hc, hb17, h0b]
        repeat (refine ⟨by first | omega | exact List.ne_nil_of_length_pos hp | (simp at *; omega), ?_⟩)
        refine hK13 _ ?_
        clear hK13 K13
        refine AT_cond (b := true) (g := none) (by simp [hlb, hp, hc, hb17, h0b]) (fun hb => ?_) (fun hb => ?_)
        ·
         clear hb
         refine AT_seq_region fun K14 hK14 => ?_
         simp [hlb, hp, hc, hb17, h0b]
         repeat (refine ⟨by first | omega | exact List.ne_nil_of_length_pos hp | (simp at *; omega), ?_⟩)
         refine hK14 _ ?_
         clear hK14 K14
         refine AT_ret ?_
         simp [Tryd.f37]
         first
         | (have : s = [] := List.eq_nil_of_length_eq_zero hp
            subst this; rfl)
         | exact isName_first hp hc
         | exact isName_bad (by rw [hbi, hbd, if_neg (by simp [hgb])]; omega)
         | exact (isName_good hp hc (by rw [hbi, List.drop_eq_nil_of_le (by omega)]; rfl)).symm
         | (have := isName_good hp hc (by rw [hbi, List.drop_eq_nil_of_le (by omega)]; rfl); rw [this]; simp)
        ·
         cases hb
       ·
        have h0b : (clsI (s[k].toNat : Int) == 0) = false := by simpa using h0
        have h4b : (clsI (s[k].toNat : Int) == 4) = true := by have := clsI_range (s[k].toNat : Int); simp; omega
        refine AT_seq_region fun K15 hK15 => ?_
        simp [hlb, hp, hc, hb17, h0b, h4b]
        repeat (refine ⟨by first | omega | exact List.ne_nil_of_length_pos hp | (simp at *; omega), ?_⟩)
        refine hK15 _ ?_
        clear hK15 K15
        refine AT_cond (b := true) (g := none) (by simp [hlb, hp, hc, hb17, h0b, h4b]) (fun hb => ?_) (fun hb => ?_)
        ·
         clear hb
         refine AT_seq_region fun K16 hK16 => ?_
         simp [hlb, hp, hc, hb17, h0b, h4b]
         repeat (refine ⟨by first | omega | exact List.ne_nil_of_length_pos hp | (simp at *; omega), ?_⟩)
         refine hK16 _ ?_
         clear hK16 K16
         refine AT_ret ?_
         simp [Tryd.f37]
         first
         | (have : s = [] := List.eq_nil_of_length_eq_zero hp
            subst this; rfl)
         | exact isName_first hp hc
         | exact isName_bad (by rw [hbi, hbd, if_neg (by simp [hgb])]; omega)
         | exact (isName_good hp hc (by rw [hbi, List.drop_eq_nil_of_le (by omega)]; rfl)).symm
         | (have := isName_good hp hc (by rw [hbi, List.drop_eq_nil_of_le (by omega)]; rfl); rw [this]; simp)
        ·
         cases hb
      ·
       have hgc := hgb
       simp only [goodB, Bool.and_eq_true, decide_eq_true_eq] at hgc
       have h0b : (clsI (s[k].toNat : Int) == 0) = false := by simp; omega
       have h4b : (clsI (s[k].toNat : Int) == 4) = false := by simp; omega
       refine AT_seq_region fun K17 hK17 => ?_
       simp [hlb, hp, hc, hb17, h0b, h4b]
       repeat (refine ⟨by first | omega | exact List.ne_nil_of_length_pos hp | (simp at *; omega), ?_⟩)
       refine hK17 _ ?_
       clear hK17 K17
       refine AT_cond (b := false) (g := none) (by simp [hlb, hp, hc, hb17, h0b, h4b]) (fun hb => ?_) (fun hb => ?_)
       ·
        cases hb
       ·
        clear hb
        refine AT_skip ?_
        try simp only [nrm, reduceIte, Nat.reduceEqDiff]
        refine hK11 _ ?_
        refine AT_region_q fun K18 hK18 => ?_
        simp [hlb, hp, hc, hb17, h0b, h4b]
        repeat (refine ⟨by first | omega | exact List.ne_nil_of_length_pos hp | (simp at *; omega), ?_⟩)
        refine hK18 _ ?_
        clear hK18 K18
        try simp only [nrm, reduceIte, Nat.reduceEqDiff]
        refine hK8 _ (by first | rfl | simp) (s.length - (k+1)) (by omega) ?_
        refine ⟨k+1, by omega, ?_, by omega, by simp⟩
        rw [hbi, hbd, if_pos hgb]
     ·
      try simp [hlb, hp, hc] at hb17
      refine AT_exit ?_
      try simp only [nrm, reduceIte, Nat.reduceEqDiff]
      refine hK6 _ ?_
      refine AT_seq_region fun K19 hK19 => ?_
      simp [hlb, hp, hc, hb17]
      repeat (refine ⟨by first | omega | exact List.ne_nil_of_length_pos hp | (simp at *; omega), ?_⟩)
      refine RVn_call (c_ref01x_Reserved g rnd _) ?_
      simp [hlb, hp, hc, hb17]
      repeat (refine ⟨by first | omega | exact List.ne_nil_of_length_pos hp | (simp at *; omega), ?_⟩)
      refine hK19 _ ?_
      clear hK19 K19
      refine AT_ret ?_
      simp [Tryd.f37]
      first
      | (have : s = [] := List.eq_nil_of_length_eq_zero hp
         subst this; rfl)
      | exact isName_first hp hc
      | exact isName_bad (by rw [hbi, hbd, if_neg (by simp [hgb])]; omega)
      | exact (isName_good hp hc (by rw [hbi, List.drop_eq_nil_of_le (by omega)]; rfl)).symm
      | (have := isName_good hp hc (by rw [hbi, List.drop_eq_nil_of_le (by omega)]; rfl); rw [this]; simp)
  ·
   have hcb : (clsI (s[0].toNat : Int) != 1) = true := by simpa using hc
   refine AT_seq_region fun K20 hK20 => ?_
   simp [hlb, hp, hcb]
   repeat (refine ⟨by first | omega | exact List.ne_nil_of_length_pos hp | (simp at *; omega), ?_⟩)
   try (
    refine RVn_call (c_ref01x_Class g rnd _) ?_
    simp [hlb, hp, hcb]
    repeat (refine ⟨by first | omega | exact List.ne_nil_of_length_pos hp | (simp at *; omega), ?_⟩))
   refine hK20 _ ?_
   clear hK20 K20
   refine AT_cond (b := true) (g := none) (by simp [hlb, hp, hcb]) (fun hb => ?_) (fun hb => ?_)
   ·
    clear hb
    refine AT_seq_region fun K21 hK21 => ?_
    simp [hlb, hp, hcb]
    repeat (refine ⟨by first | omega | exact List.ne_nil_of_length_pos hp | (simp at *; omega), ?_⟩)
    refine hK21 _ ?_
    clear hK21 K21
    refine AT_ret ?_
    simp [Tryd.f37]
    first
    | (have : s = [] := List.eq_nil_of_length_eq_zero hp
       subst this; rfl)
    | exact isName_first hp hc
    | exact isName_bad (by rw [hbi, hbd, if_neg (by simp [hgb])]; omega)
    | exact (isName_good hp hc (by rw [hbi, List.drop_eq_nil_of_le (by omega)]; rfl)).symm
    | (have := isName_good hp hc (by rw [hbi, List.drop_eq_nil_of_le (by omega)]; rfl); rw [this]; simp)
   ·
    cases hb

end Go.Proofs.YtpjkdaechknogaaDoor

/- Contracts: the reference. -/
import Derived.Test.YtpjkdaechknogaaDoorPt
import Derived.Test.YtpjkdaechknogaaDoorPvPb
import Derived.Test.YtpjkdaechknogaaDoorPvY
import Derived.Test.YtpjkdaechknogaaDoorXLxA
import Derived.Test.YtpjkdaechknogaaDoorXLxA
import Derived.Test.YtpjkdaechknogaaDoorXNaI
set_option linter.all false
set_option maxHeartbeats 1000000
set_option maxRecDepth 10000
namespace Go.Proofs.YtpjkdaechknogaaDoor
open Go Go.Pv
variable (g : Nat → Option (List AV)) (rnd : Bool)

theorem c_ref03x_sign (c : UInt8) : Valid Tryd.prog (G0 g rnd) 45 [.int .u8 c.toNat] (.bool (signs.contains c)) := by
 obtain ⟨sg, hsg⟩ : ∃ sg, sg = signs := ⟨_, rfl⟩
 have hsl : sg.length = 11 := by rw [hsg]; rfl
 rw [← hsg]
 refine valid_of [] Tryd.func45 rfl (by kernel_rfl) ?_
 refine AT_seq_region fun K1 hK1 => ?_
 simp [Tryd.f45]
 repeat refine sgX ?_
 refine hK1 _ ?_
 clear hK1 K1
 refine AT_seq_region fun K2 hK2 => ?_
 simp
 repeat refine sgX ?_
 refine hK2 _ ?_
 clear hK2 K2
 refine AT_seq_k fun K3 hK3 => ?_
 refine AT_seq_region fun K4 hK4 => ?_
 simp
 repeat refine sgX ?_
 refine hK4 _ ?_
 clear hK4 K4
 refine AT_block ?_
 refine AT_loop_q [0,3,4] [] (fun j s => ∃ k, k ≤ sg.length ∧ sg.contains c = (sg.drop k).contains c ∧ j = sg.length - k ∧ s = { n := 16, tm := [(0, .v (.int .u8 c.toNat) none), (3, .v (.str sg) none), (4, .v (.int .i64 (k : Nat)) none)], bx := [], tb := [], sh := [], hint := [] }) (sg.length) (by first | rfl | simp) ?_ ?_
 ·
  exact ⟨0, by simp [hsg, signs]⟩
 ·
  rintro j s ⟨k, hk, hc, rfl, rfl⟩ K5 hK5
  refine AT_seq_k fun K6 hK6 => ?_
  refine AT_seq_region fun K7 hK7 => ?_
  have hsg2 : ([40, 41, 91, 93, 123, 125, 46, 44, 59, 61, 95] : List UInt8) = sg := hsg.symm
  simp
  repeat refine sgX ?_
  refine hK7 _ ?_
  clear hK7 K7
  refine AT_cond (g := none) rfl (fun hb8 => ?_) (fun hb8 => ?_)
  ·
   try simp at hb8
   refine AT_skip ?_
   try simp only [nrm, reduceIte, Nat.reduceEqDiff]
   refine hK6 _ ?_
   refine AT_seq_k fun K8 hK8 => ?_
   refine AT_block ?_
   refine AT_seq_region fun K9 hK9 => ?_
   have hks : k < sg.length := by omega
   have hda := List.drop_eq_getElem_cons hks
   simp [hb8]
   repeat refine sgX ?_
   refine hK9 _ ?_
   clear hK9 K9
   refine AT_cond (g := none) rfl (fun hb15 => ?_) (fun hb15 => ?_)
   ·
    try simp [hb8] at hb15
    refine AT_seq_region fun K10 hK10 => ?_
    simp [hb8, hb15]
    repeat refine sgX ?_
    refine hK10 _ ?_
    clear hK10 K10
    refine AT_ret ?_
    simp [Tryd.f45]
    first
    | (have he := UInt8.toNat_inj.1 (Int.ofNat.inj hb15)
       rw [← he]
       exact List.getElem_mem _)
    | (intro hm
       rw [← List.contains_iff_mem, hc, List.drop_eq_nil_of_le hb8] at hm
       cases hm)
   ·
    try simp [hb8] at hb15
    refine AT_skip ?_
    try simp only [nrm, reduceIte, Nat.reduceEqDiff]
    refine hK8 _ ?_
    refine AT_region_q fun K11 hK11 => ?_
    simp [hb8, hb15]
    repeat refine sgX ?_
    refine hK11 _ ?_
    clear hK11 K11
    try simp only [nrm, reduceIte, Nat.reduceEqDiff]
    refine hK5 _ (by first | rfl | simp) (sg.length - (k+1)) (by omega) ?_
    refine ⟨k+1, by omega, ?_, by omega, by simp⟩
    have hne : (c == sg[k]) = false := by
      simp only [beq_eq_false_iff_ne, ne_eq]
      intro he
      exact hb15 (by rw [he])
    rw [hc, hda, List.contains_cons, hne, Bool.false_or]
  ·
   try simp at hb8
   refine AT_exit ?_
   try simp only [nrm, reduceIte, Nat.reduceEqDiff]
   refine hK3 _ ?_
   refine AT_seq_region fun K12 hK12 => ?_
   simp [hb8]
   repeat refine sgX ?_
   refine hK12 _ ?_
   clear hK12 K12
   refine AT_ret ?_
   simp [Tryd.f45]
   first
   | (have he := UInt8.toNat_inj.1 (Int.ofNat.inj hb15)
      rw [← he]
      exact List.getElem_mem _)
   | (intro hm
      rw [← List.contains_iff_mem, hc, List.drop_eq_nil_of_le hb8] at hm
      cases hm)

end Go.Proofs.YtpjkdaechknogaaDoor

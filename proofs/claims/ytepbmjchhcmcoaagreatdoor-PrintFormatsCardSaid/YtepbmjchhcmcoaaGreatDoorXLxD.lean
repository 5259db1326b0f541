import Derived.Test.YtepbmjchhcmcoaaGreatDoorPt
import Derived.Test.YtepbmjchhcmcoaaGreatDoorPvPb
import Derived.Test.YtepbmjchhcmcoaaGreatDoorPvY
import Derived.Test.YtepbmjchhcmcoaaGreatDoorXNaA
import Derived.Test.YtepbmjchhcmcoaaGreatDoorXShelf
section
/- Contracts: words, errors, lines. -/
set_option linter.all false
set_option maxHeartbeats 1000000
set_option maxRecDepth 10000
namespace Go.Proofs.YtepbmjchhcmcoaaGreatDoor
open Go Go.Pv
variable (g : Nat → Option (List AV)) (rnd : Bool)

theorem c_lex_word (s : Str) (hs : s.length ≤ 1000000) : Valid Tryz.prog (G0 g rnd) 113 [.str s] (.int .i64 (wordN s : Nat)) := by

 refine valid_of [] Tryz.func113 rfl (by kernel_rfl) ?_
 refine sr fun Z z => ?_
 simp [Tryz.f113]
 refine z _ ?_
 clear z Z
 refine sr fun Z z => ?_
 simp
 refine z _ ?_
 clear z Z
 refine AT_seq_k fun K1 hK1 => ?_
 refine AT_block ?_
 refine AT_loop_q [0,3] [] (fun j s1 => ∃ k, k ≤ s.length ∧ wordN s = k + wordN (s.drop k) ∧ j = s.length - k ∧ s1 = { n := 25, tm := [(0, .v (.str s) none), (3, .v (.int .i64 (k : Nat)) none)], bx := [], tb := [], sh := [], hint := [] }) (s.length) (by first | rfl | simp) ?_ ?_
 exact ⟨0, by simp⟩
 rintro j s1 ⟨k, hk, hc, rfl, rfl⟩ K2 hK2
 refine AT_seq_k fun K3 hK3 => ?_
 by_cases hks : k < s.length
 have hda := List.drop_eq_getElem_cons hks
 by_cases h1 : 1 ≤ clsI s[k].toNat
 by_cases h2 : clsI s[k].toNat ≤ 3
 refine sr fun Z z => ?_
 simp [hks, h1, h2]
 refine RVn_call (c_name_Class g rnd _) ?_
 simp [hks, h1, h2]
 repeat refine sgX ?_
 refine RVn_call (c_name_Class g rnd _) ?_
 simp [hks, h1, h2]
 repeat refine sgX ?_
 refine z _ ?_
 clear z Z
 refine cT (by simp [hks, h1, h2]) ?_
 refine AT_skip ?_
 refine hK3 _ ?_
 refine AT_block ?_
 refine AT_region_q fun Z z => ?_
 simp [hks, h1, h2]
 repeat refine sgX ?_
 refine z _ ?_
 clear z Z
 refine hK2 _ (by first | rfl | simp) (s.length - (k+1)) (by omega) ?_
 refine ⟨k+1, by omega, ?_, by omega, by simp⟩
 rw [hc, hda, wordN_cons, if_pos (by simp [wc, h1, h2])]; omega
 refine sr fun Z z => ?_
 simp [hks, h1, h2]
 refine RVn_call (c_name_Class g rnd _) ?_
 simp [hks, h1, h2]
 repeat refine sgX ?_
 refine RVn_call (c_name_Class g rnd _) ?_
 simp [hks, h1, h2]
 repeat refine sgX ?_
 refine z _ ?_
 clear z Z
 refine cF (by simp [hks, h1, h2]) ?_
 refine AT_exit ?_
 refine hK1 _ ?_
 refine sr fun Z z => ?_
 simp [hks, h1, h2]
 refine z _ ?_
 clear z Z
 refine AT_ret ?_
 simp [Tryz.f113]
 (· rw [hc, hda, wordN_cons]; simp [wc, h1, h2])
 refine sr fun Z z => ?_
 simp [hks, h1]
 refine RVn_call (c_name_Class g rnd _) ?_
 simp [hks, h1]
 repeat refine sgX ?_
 refine z _ ?_
 clear z Z
 refine cF (by simp [hks, h1]) ?_
 refine AT_exit ?_
 refine hK1 _ ?_
 refine sr fun Z z => ?_
 simp [hks, h1]
 refine z _ ?_
 clear z Z
 refine AT_ret ?_
 simp [Tryz.f113]
 (· rw [hc, hda, wordN_cons]; simp [wc, h1])
 refine sr fun Z z => ?_
 simp [hks]
 refine z _ ?_
 clear z Z
 refine cF (by simp [hks]) ?_
 refine AT_exit ?_
 refine hK1 _ ?_
 refine sr fun Z z => ?_
 simp [hks]
 refine z _ ?_
 clear z Z
 refine AT_ret ?_
 simp [Tryz.f113]
 (· rw [hc, List.drop_eq_nil_of_le (by omega)]; simp [wordN])

theorem c_fault_New (c n : Int) : Valid Tryz.prog (G0 g rnd) 108 [.int .i64 c, .int .i64 n] (.iface 92 (.agg [.int .i64 c, .int .i64 n])) := by

 refine valid_of [] Tryz.func108 rfl (by kernel_rfl) ?_
 refine sr fun Z z => ?_
 simp [Tryz.f108]
 refine z _ ?_
 clear z Z
 refine sr fun Z z => ?_
 simp
 refine z _ ?_
 clear z Z
 refine AT_ret ?_
 simp [Tryz.f108]

theorem c_internal_stringslite_HasPrefix (s p : Str) : Valid Tryz.prog (G0 g rnd) 127 [.str s, .str p] (.bool (Lib.hasPrefix s p)) :=
  valid_two (by kernel_rfl) (fun _ _ _ h => rep_str h) (fun _ _ _ h => rep_str h) (fun _ _ => .bool _) (fun w => Tryz.stringslite_HasPrefix ⟨s.toArray⟩ ⟨p.toArray⟩ w)

theorem c_strings_HasPrefix (s p : Str) : Valid Tryz.prog (G0 g rnd) 111 [.str s, .str p] (.bool (Lib.hasPrefix s p)) := by

 refine valid_of [] Tryz.func111 rfl (by kernel_rfl) ?_
 refine sr fun Z z => ?_
 simp [Tryz.f111]
 refine z _ ?_
 clear z Z
 refine sr fun Z z => ?_
 simp
 refine RVn_call (c_internal_stringslite_HasPrefix g rnd _ _) ?_
 simp
 refine z _ ?_
 clear z Z
 refine AT_ret ?_
 simp [Tryz.f111]

theorem c_internal_stringslite_IndexByte (s : Str) (c : UInt8) : Valid Tryz.prog (G0 g rnd) 128 [.str s, .int .u8 c.toNat] (.int .i64 (Lib.indexByte s c)) :=
  valid_two (by kernel_rfl) (fun _ _ _ h => rep_str h) (fun _ _ _ h => rep_int h) (fun _ _ => .int _ _) (fun w => by
    have := Tryz.stringslite_IndexByte ⟨s.toArray⟩ c.toNat w
    simpa using this)

theorem c_strings_IndexByte (s : Str) (c : UInt8) : Valid Tryz.prog (G0 g rnd) 112 [.str s, .int .u8 c.toNat] (.int .i64 (Lib.indexByte s c)) := by

 refine valid_of [] Tryz.func112 rfl (by kernel_rfl) ?_
 refine sr fun Z z => ?_
 simp [Tryz.f112]
 refine z _ ?_
 clear z Z
 refine sr fun Z z => ?_
 simp
 refine RVn_call (c_internal_stringslite_IndexByte g rnd _ _) ?_
 simp
 refine z _ ?_
 clear z Z
 refine AT_ret ?_
 simp [Tryz.f112]

end Go.Proofs.YtepbmjchhcmcoaaGreatDoor
end

section
/- Contracts: lex. -/
set_option linter.all false
set_option maxHeartbeats 1000000
set_option maxRecDepth 10000
namespace Go.Proofs.YtepbmjchhcmcoaaGreatDoor
open Go Go.Pv
variable (g : Nat → Option (List AV)) (rnd : Bool)

theorem c_lex_Tokens_1 (k n i : Int) (src : Str) (out : List (List AV)) (hs : src.length ≤ 65536) (hi : 0 ≤ i) (hn : 0 ≤ n) (hin : i + n ≤ src.length) (hout : Pv.Rows 3 out) (hol : out.length ≤ 65536) : ValidB Tryz.prog (G0 g rnd) 109 [.int .i64 k, .int .i64 n] [4, 1, 5] [(4, [.slice out]), (1, [.str src]), (5, [.int .i64 i])] [(4, 0, gid 4 0, 192)] (.tup []) [(5, [.int .i64 (i + n)]), (4, [.slice (out ++ [[.int .i64 k, .str ((src.take (i + n).toNat).drop i.toNat), .int .i64 i]])]), (4, [.slice out]), (1, [.str src]), (5, [.int .i64 i])] [(4, 0, gid 4 0, 192)] := by

 refine validB_of [] Tryz.func109 rfl (by kernel_rfl) (by simp) ?_
 refine AT_seq_draw Pt.mixed (by kernel_rfl) fun Z z => ?_
 simp [Tryz.f109]
 repeat (refine ⟨by first | omega | assumption | (constructor <;> first | assumption | omega) | (simp at *; omega), ?_⟩)
 refine z _ ?_
 clear z Z
 refine AT_region_q fun Z z => ?_
 simp
 repeat (refine ⟨by first | omega | assumption | (constructor <;> first | assumption | omega) | (simp at *; omega), ?_⟩)
 refine z _ ?_
 clear z Z
 simp [Tryz.f109]

end Go.Proofs.YtepbmjchhcmcoaaGreatDoor
end

section
/- Contracts: the reference. -/
set_option linter.all false
set_option maxHeartbeats 1000000
set_option maxRecDepth 10000
namespace Go.Proofs.YtepbmjchhcmcoaaGreatDoor
open Go Go.Pv
variable (g : Nat → Option (List AV)) (rnd : Bool)

theorem c_ref03x_sign (c : UInt8) : Valid Tryz.prog (G0 g rnd) 100 [.int .u8 c.toNat] (.bool (signs.contains c)) := by
 obtain ⟨sg, hsg⟩ : ∃ sg, sg = signs := ⟨_, rfl⟩
 have hsl : sg.length = 11 := by rw [hsg]; rfl
 rw [← hsg]
 refine valid_of [] Tryz.func100 rfl (by kernel_rfl) ?_
 refine sr fun Z z => ?_
 simp [Tryz.f100]
 refine z _ ?_
 clear z Z
 refine sr fun Z z => ?_
 simp
 refine z _ ?_
 clear z Z
 refine AT_seq_k fun K1 hK1 => ?_
 refine sr fun Z z => ?_
 simp
 refine z _ ?_
 clear z Z
 refine AT_block ?_
 refine AT_loop_q [0,3,4] [] (fun j s => ∃ k, k ≤ sg.length ∧ sg.contains c = (sg.drop k).contains c ∧ j = sg.length - k ∧ s = { n := 16, tm := [(0, .v (.int .u8 c.toNat) none), (3, .v (.str sg) none), (4, .v (.int .i64 (k : Nat)) none)], bx := [], tb := [], sh := [], hint := [] }) (sg.length) (by first | rfl | simp) ?_ ?_
 exact ⟨0, by simp [hsg, signs]⟩
 rintro j s ⟨k, hk, hc, rfl, rfl⟩ K2 hK2
 refine AT_seq_k fun K3 hK3 => ?_
 refine sr fun Z z => ?_
 have hsg2 : ([40, 41, 91, 93, 123, 125, 46, 44, 59, 61, 95] : List UInt8) = sg := hsg.symm
 simp
 refine z _ ?_
 clear z Z
 refine AT_cond (g := none) rfl (fun hb8 => ?_) (fun hb8 => ?_)
 simp at hb8
 refine AT_skip ?_
 refine hK3 _ ?_
 refine AT_seq_k fun K4 hK4 => ?_
 refine AT_block ?_
 refine sr fun Z z => ?_
 have hks : k < sg.length := by omega
 have hda := List.drop_eq_getElem_cons hks
 simp [hb8]
 refine z _ ?_
 clear z Z
 refine AT_cond (g := none) rfl (fun hb15 => ?_) (fun hb15 => ?_)
 simp [hb8] at hb15
 refine sr fun Z z => ?_
 simp [hb8, hb15]
 refine z _ ?_
 clear z Z
 refine AT_ret ?_
 simp [Tryz.f100]
 (have he := UInt8.toNat_inj.1 (Int.ofNat.inj hb15)
  rw [← he]
  exact List.getElem_mem _)
 simp [hb8] at hb15
 refine AT_skip ?_
 refine hK4 _ ?_
 refine AT_region_q fun Z z => ?_
 simp [hb8, hb15]
 repeat refine sgX ?_
 refine z _ ?_
 clear z Z
 refine hK2 _ (by first | rfl | simp) (sg.length - (k+1)) (by omega) ?_
 refine ⟨k+1, by omega, ?_, by omega, by simp⟩
 have hne : (c == sg[k]) = false := by
   simp only [beq_eq_false_iff_ne, ne_eq]
   intro he
   exact hb15 (by rw [he])
 rw [hc, hda, List.contains_cons, hne, Bool.false_or]
 simp at hb8
 refine AT_exit ?_
 refine hK1 _ ?_
 refine sr fun Z z => ?_
 simp [hb8]
 refine z _ ?_
 clear z Z
 refine AT_ret ?_
 simp [Tryz.f100]
 (intro hm
  rw [← List.contains_iff_mem, hc, List.drop_eq_nil_of_le hb8] at hm
  cases hm)

end Go.Proofs.YtepbmjchhcmcoaaGreatDoor
end

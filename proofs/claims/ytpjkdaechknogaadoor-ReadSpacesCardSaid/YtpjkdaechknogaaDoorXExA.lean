import Derived.Test.YtpjkdaechknogaaDoorPt
import Derived.Test.YtpjkdaechknogaaDoorPvRa
import Derived.Test.YtpjkdaechknogaaDoorPvZ
import Derived.Test.YtpjkdaechknogaaDoorXRdA
import Derived.Test.YtpjkdaechknogaaDoorXErA
import Derived.Test.YtpjkdaechknogaaDoorXLxE
import Derived.Test.YtpjkdaechknogaaDoorXTyD
import Derived.Test.YtpjkdaechknogaaDoorXTyP
import Derived.Test.YtpjkdaechknogaaDoorXTyQ
import Derived.Test.YtpjkdaechknogaaDoorXNaB
import Derived.Test.YtpjkdaechknogaaDoorPvRc
import Derived.Test.YtpjkdaechknogaaDoorPvMc
section
/- Contracts: whole texts, errors, what every law of reading asks first. -/
set_option linter.all false
set_option maxHeartbeats 1000000
set_option maxRecDepth 10000
namespace Go.Proofs.YtpjkdaechknogaaDoor
open Go Go.Pv
variable (g : Nat → Option (List AV)) (rnd : Bool)

theorem c_ref07x_Begin (s : Str) (hs : s.length ≤ 1000000) : Valid Tryd.prog (G0 g false) 57 [.str s] (match lexT s with | (none, m) => .tup [.agg (encP [] ⟨0, false⟩), .int .i64 1, .int .i64 m] | (some l, _) => .tup [.agg (encP l ⟨0, false⟩), .int .i64 0, .int .i64 0]) := by

 refine valid_of [] Tryd.func57 rfl (by kernel_rfl) ?_
 refine AT_seq_region fun K1 hK1 => ?_
 simp [encP, lexR, Tryd.f57]
 repeat refine sg ?_
 refine hK1 _ ?_
 clear hK1 K1
 rcases hx : lexT s with ⟨_ | l, m⟩
 ·
  refine AT_seq_region fun K2 hK2 => ?_
  simp [encP, lexR]
  repeat refine sg ?_
  refine RVn_call ((by have h := c_ref03x_Tokens g false s (by omega); rw [hx] at h; exact h)) ?_
  simp [encP, lexR]
  repeat refine sg ?_
  refine hK2 _ ?_
  clear hK2 K2
  refine AT_seq_k fun K3 hK3 => ?_
  refine AT_seq_region fun K4 hK4 => ?_
  simp [encP, lexR]
  repeat refine sg ?_
  refine hK4 _ ?_
  clear hK4 K4
  refine AT_cond (b := true) (g := none) (by simp) (fun hb => ?_) (fun hb => ?_)
  ·
   clear hb
   refine AT_seq_draw_m false [(2, 2), (5, 5), (12, 5)] Pt.mixed (by kernel_rfl) ⟨by simp [Im, okP, AS.get, look, TV.strip], fun h => by cases h⟩ fun K5 hK5 => ?_
   simp [encP, lexR]
   repeat refine sg ?_
   refine hK5 _ ?_
   clear hK5 K5
   refine AT_ret ?_
   simp [encP, lexR, Tryd.f57]
  ·
   cases hb
 ·
  refine AT_seq_region fun K6 hK6 => ?_
  simp [encP, lexR]
  repeat refine sg ?_
  refine RVn_call ((by have h := c_ref03x_Tokens g false s (by omega); rw [hx] at h; exact h)) ?_
  simp [encP, lexR]
  repeat refine sg ?_
  refine hK6 _ ?_
  clear hK6 K6
  refine AT_seq_k fun K7 hK7 => ?_
  refine AT_seq_region fun K8 hK8 => ?_
  simp [encP, lexR]
  repeat refine sg ?_
  refine hK8 _ ?_
  clear hK8 K8
  refine AT_cond (b := false) (g := none) (by simp) (fun hb => ?_) (fun hb => ?_)
  ·
   cases hb
  ·
   clear hb
   refine AT_skip ?_
   try simp only [nrm, reduceIte, Nat.reduceEqDiff]
   refine hK7 _ ?_
   refine AT_seq_region fun K9 hK9 => ?_
   simp [encP, lexR]
   repeat refine sg ?_
   refine hK9 _ ?_
   clear hK9 K9
   refine AT_ret ?_
   simp [encP, lexR, Tryd.f57]

theorem c_ref07x_WholeType (s : Str) (hs : s.length ≤ 1000000) : Valid Tryd.prog (G0 g false) 31 [.str s] (.tup [.agg (encTy (wholeR ty0 rtR s).1), .int .i64 (wholeR ty0 rtR s).2.1, .int .i64 (wholeR ty0 rtR s).2.2]) := by

 refine valid_of [] Tryd.func31 rfl (by kernel_rfl) ?_
 refine AT_seq_region fun K1 hK1 => ?_
 simp [Tryd.f31]
 repeat refine sg ?_
 refine hK1 _ ?_
 clear hK1 K1
 rcases hx : lexT s with ⟨_ | l, m⟩
 ·
  refine AT_seq_region fun K2 hK2 => ?_
  simp [encP]
  repeat refine sg ?_
  refine RVn_call ((by have h := c_ref07x_Begin g s hs; rw [hx] at h; exact h)) ?_
  simp [encP]
  repeat refine sg ?_
  refine hK2 _ ?_
  clear hK2 K2
  refine AT_seq_k fun K3 hK3 => ?_
  refine AT_seq_region fun K4 hK4 => ?_
  simp
  repeat refine sg ?_
  refine hK4 _ ?_
  clear hK4 K4
  refine AT_cond (b := true) (g := none) (by simp) (fun hb => ?_) (fun hb => ?_)
  ·
   clear hb
   refine AT_seq_region fun K5 hK5 => ?_
   simp
   repeat refine sg ?_
   refine hK5 _ ?_
   clear hK5 K5
   refine AT_ret ?_
   simp [Tryd.f31]
   all_goals first | (simp [wholeR, hx, enc_ty0]; done) | (simp [wholeR, hx, ← hp, h0, enc_ty0]; done)
  ·
   cases hb
 ·
  obtain ⟨hsl, hll, hlt⟩ := lexT_bounds hx
  have hE := lexT_ends hx
  obtain ⟨p, hp⟩ : ∃ p, p = rtR l := ⟨_, rfl⟩
  have hpl : p.2.k < l.length := by rw [hp]; exact (typeR_lt hE _ ⟨0, false⟩ hE.1).2
  refine AT_seq_region fun K6 hK6 => ?_
  simp [encP]
  repeat refine sg ?_
  refine RVn_call ((by have h := c_ref07x_Begin g s hs; rw [hx] at h; exact h)) ?_
  simp [encP]
  repeat refine sg ?_
  refine hK6 _ ?_
  clear hK6 K6
  refine AT_seq_k fun K7 hK7 => ?_
  refine AT_seq_region fun K8 hK8 => ?_
  simp
  repeat refine sg ?_
  refine hK8 _ ?_
  clear hK8 K8
  refine AT_cond (b := false) (g := none) (by simp) (fun hb => ?_) (fun hb => ?_)
  ·
   cases hb
  ·
   clear hb
   refine AT_skip ?_
   try simp only [nrm, reduceIte, Nat.reduceEqDiff]
   refine hK7 _ ?_
   refine AT_seq_region fun K9 hK9 => ?_
   simp [encP]
   repeat refine sg ?_
   refine RVn_call ((by have h := c_ref07x_Type g l hE (by omega) (fun t ht => by have := hlt t ht; omega) (l.length + 1) ⟨0, false⟩ (by simp) hE.1; rw [show typeR l (l.length + 1) ⟨0, false⟩ = p from hp.symm] at h; simp only [encP] at h; exact h)) ?_
   simp [encP]
   repeat refine sg ?_
   refine hK9 _ ?_
   clear hK9 K9
   refine AT_seq_region fun K10 hK10 => ?_
   simp
   repeat refine sg ?_
   refine RVn_call ((by have h := c_ref07x_Finish g l (by omega) p.2 hpl; simp only [encP] at h; exact h)) ?_
   simp
   repeat refine sg ?_
   refine hK10 _ ?_
   clear hK10 K10
   refine AT_seq_k fun K11 hK11 => ?_
   by_cases h0 : (finR l p.2).1 = 0
   ·
    refine AT_seq_region fun K12 hK12 => ?_
    simp [h0]
    repeat refine sg ?_
    refine hK12 _ ?_
    clear hK12 K12
    refine AT_cond (b := false) (g := none) (by simp [h0]) (fun hb => ?_) (fun hb => ?_)
    ·
     cases hb
    ·
     clear hb
     refine AT_skip ?_
     try simp only [nrm, reduceIte, Nat.reduceEqDiff]
     refine hK11 _ ?_
     refine AT_seq_region fun K13 hK13 => ?_
     simp [h0]
     repeat refine sg ?_
     refine hK13 _ ?_
     clear hK13 K13
     refine AT_ret ?_
     simp [Tryd.f31]
     all_goals first | (simp [wholeR, hx, enc_ty0]; done) | (simp [wholeR, hx, ← hp, h0, enc_ty0]; done)
   ·
    refine AT_seq_region fun K14 hK14 => ?_
    simp [h0]
    repeat refine sg ?_
    refine hK14 _ ?_
    clear hK14 K14
    refine AT_cond (b := true) (g := none) (by simp [h0]) (fun hb => ?_) (fun hb => ?_)
    ·
     clear hb
     refine AT_seq_region fun K15 hK15 => ?_
     simp [h0]
     repeat refine sg ?_
     refine hK15 _ ?_
     clear hK15 K15
     refine AT_ret ?_
     simp [Tryd.f31]
     all_goals first | (simp [wholeR, hx, enc_ty0]; done) | (simp [wholeR, hx, ← hp, h0, enc_ty0]; done)
    ·
     cases hb

theorem c_law07x_told_0 (at_ : Int) : Valid Tryd.prog (G0 g false) 29 [.nilIface, .int .i64 0, .int .i64 at_] (.bool true) := by

 refine valid_of [] Tryd.func29 rfl (by kernel_rfl) ?_
 refine AT_seq_region fun K1 hK1 => ?_
 simp [Tryd.f29]
 repeat refine sg ?_
 refine hK1 _ ?_
 clear hK1 K1
 refine AT_seq_k fun K2 hK2 => ?_
 refine AT_seq_region fun K3 hK3 => ?_
 simp
 repeat refine sg ?_
 refine hK3 _ ?_
 clear hK3 K3
 refine AT_cond (b := true) (g := none) (by simp) (fun hb => ?_) (fun hb => ?_)
 ·
  clear hb
  refine AT_seq_region fun K4 hK4 => ?_
  simp
  repeat refine sg ?_
  refine hK4 _ ?_
  clear hK4 K4
  refine AT_ret ?_
  simp [Tryd.f29]
 ·
  cases hb

theorem c_law07x_told (k n : Int) (hk : k ≠ 0) (hty : g 1 = some errTy) : Valid Tryd.prog (G0 g false) 29 [.iface 110 (.agg [.int .i64 k, .int .i64 n]), .int .i64 k, .int .i64 n] (.bool true) := by
 have hk2 : (k == 0) = false := by simpa using hk
 refine valid_of [] Tryd.func29 rfl (by kernel_rfl) ?_
 refine AT_seq_region fun K1 hK1 => ?_
 simp [hk2, Tryd.f29]
 repeat refine sg ?_
 refine hK1 _ ?_
 clear hK1 K1
 refine AT_seq_k fun K2 hK2 => ?_
 refine AT_seq_region fun K3 hK3 => ?_
 simp [hk2]
 repeat refine sg ?_
 refine hK3 _ ?_
 clear hK3 K3
 refine AT_cond (b := false) (g := none) (by simp [hk2]) (fun hb => ?_) (fun hb => ?_)
 ·
  cases hb
 ·
  clear hb
  refine AT_skip ?_
  try simp only [nrm, reduceIte, Nat.reduceEqDiff]
  refine hK2 _ ?_
  refine AT_seq_region fun K4 hK4 => ?_
  simp [hk2]
  repeat refine sg ?_
  refine RVn_call (fault_Code_f g false hty _ _) ?_
  simp [hk2]
  repeat refine sg ?_
  refine hK4 _ ?_
  clear hK4 K4
  refine AT_seq_region fun K5 hK5 => ?_
  simp [hk2]
  repeat refine sg ?_
  refine RVn_call (fault_At_f g false hty _ _) ?_
  simp [hk2]
  repeat refine sg ?_
  refine hK5 _ ?_
  clear hK5 K5
  refine AT_seq_region fun K6 hK6 => ?_
  simp [hk2]
  repeat refine sg ?_
  refine hK6 _ ?_
  clear hK6 K6
  refine AT_ret ?_
  simp [hk2, Tryd.f29]

def rdX : Exp := .mk 5 [] (.mk [84] [] 8) [] [.mk 2 [102] ty0 [] [.mk 1 [120] ty0 [] [] 0, .mk 1 [121] ty0 [] [] 4] 2] 7
def rdM : Ty := .mk [77, 97, 112] [.mk [97] [] 4, .mk [76, 105, 115, 116] [.mk [98] [] 12] 7] 0
def rdK : List Tk := [(2, [44], 1), (1, [98], 3), (3, [], 4)]
def rdL : List Tk := (1, [97], 0) :: rdK
def rdN : List Tk := [(1, [98], 3), (3, [], 4)]
theorem rd1 : wholeC 110 ex0 rdE [120, 46, 102, 40, 121, 41, 46, 40, 84, 41] = (rdX, .nilIface) := by kernel_rfl
theorem rd2 : wholeC 110 ty0 rdT [77, 97, 112, 91, 97, 44, 32, 76, 105, 115, 116, 91, 98, 93, 93] = (rdM, .nilIface) := by kernel_rfl
theorem rd3 : wholeC 110 ex0 rdE [120, 46] = (ex0, .iface 110 (.agg [.int .i64 2, .int .i64 2])) := by kernel_rfl
theorem rd4 : lexT [97, 44, 32, 98] = (some rdL, 0) := by decide
theorem rd5 : (⟨rdL, none⟩ : Cur).name = ⟨rdK, none⟩ := by kernel_rfl
theorem rd6 : (⟨rdL, none⟩ : Cur).nm = [97] ∧ (⟨rdL, none⟩ : Cur).at_ = 0 := by decide
theorem rd7 : (⟨rdK, none⟩ : Cur).next [44] = true ∧ (⟨rdN, none⟩ : Cur).next [98] = true ∧ (⟨rdN, none⟩ : Cur).next [120] = false := by decide
theorem rd8 : (⟨rdK, none⟩ : Cur).take [44] = ⟨rdN, none⟩ := by kernel_rfl
theorem rd9 : (⟨rdN, none⟩ : Cur).take [120] = ⟨rdN, none⟩ := by kernel_rfl
theorem rdp : ptrT Tryd.prog 52 = true := by kernel_rfl

theorem c_law07x_awake (hres : g 0 = some reservedA) (hty : g 1 = some errTy) : Valid Tryd.prog (G0 g false) 7 [] (.bool true) := by

 refine valid_of [] Tryd.func7 rfl (by kernel_rfl) ?_
 refine AT_seq_region fun K1 hK1 => ?_
 simp [lexV, rdp, Tryd.f7]
 repeat refine sg ?_
 refine hK1 _ ?_
 clear hK1 K1
 refine AT_seq_region fun K2 hK2 => ?_
 simp [lexV, rdp]
 repeat refine sg ?_
 refine RVn_call ((by have h := c_read_Expr g [120, 46, 102, 40, 121, 41, 46, 40, 84, 41] (by decide) hres; rw [rd1] at h; exact h)) ?_
 simp [lexV, rdp]
 repeat refine sg ?_
 refine hK2 _ ?_
 clear hK2 K2
 refine AT_seq_region fun K3 hK3 => ?_
 simp [lexV, rdp]
 repeat refine sg ?_
 refine RVn_call ((by have h := c_read_Type g [77, 97, 112, 91, 97, 44, 32, 76, 105, 115, 116, 91, 98, 93, 93] (by decide) hres; rw [rd2] at h; exact h)) ?_
 simp [lexV, rdp]
 repeat refine sg ?_
 refine hK3 _ ?_
 clear hK3 K3
 refine AT_seq_region fun K4 hK4 => ?_
 simp [lexV, rdp, enc_ex0]
 repeat refine sg ?_
 refine RVn_call ((by have h := c_read_Expr g [120, 46] (by decide) hres; rw [rd3] at h; exact h)) ?_
 simp [lexV, rdp, enc_ex0]
 repeat refine sg ?_
 refine hK4 _ ?_
 clear hK4 K4
 refine AT_seq_region fun K5 hK5 => ?_
 simp [lexV, rdp]
 repeat refine sg ?_
 refine RVn_call ((by have h := c_lex_Tokens g false [97, 44, 32, 98] (by decide); rw [rd4] at h; exact h)) ?_
 simp [lexV, rdp]
 repeat refine sg ?_
 refine hK5 _ ?_
 clear hK5 K5
 refine AT_seq_region fun K6 hK6 => ?_
 simp [lexV, rdp]
 repeat refine sg ?_
 refine RVn_callN (c_read_New g rdL) fun b => ?_
 simp [lexV, rdp]
 repeat refine sg ?_
 refine hK6 _ ?_
 clear hK6 K6
 refine AT_seq_k fun K7 hK7 => ?_
 refine AT_seq_region fun K8 hK8 => ?_
 simp [lexV, rdp]
 repeat refine sg ?_
 refine hK8 _ ?_
 clear hK8 K8
 refine AT_cond (b := false) (g := none) (by simp) (fun hb => ?_) (fun hb => ?_)
 ·
  cases hb
 ·
  clear hb
  refine AT_skip ?_
  try simp only [nrm, reduceIte, Nat.reduceEqDiff]
  refine hK7 _ ?_
  refine AT_seq_region fun K9 hK9 => ?_
  simp [lexV, rdp]
  repeat refine sg ?_
  refine RVn_callC ((by have h := c_read_Cursor_Name g b ⟨rdL, none⟩ (by decide) (fun s hs => c_name_Is g false s (by omega) hres) (by decide); rw [rd5, rd6.1, rd6.2] at h; exact h)) rfl ?_
  simp [lexV, rdp]
  repeat refine sg ?_
  refine hK9 _ ?_
  clear hK9 K9
  refine AT_seq_region fun K10 hK10 => ?_
  simp [lexV, rdp, rdX, encE_mk]
  repeat refine sg ?_
  refine RVn_call ((by have h := c_ref04x_Text g false rdM (by decide); exact h : Valid Tryd.prog (G0 g false) 13 [.agg (encTy rdM)] (.str [77, 97, 112, 91, 97, 44, 32, 76, 105, 115, 116, 91, 98, 93, 93]))) ?_
  simp [lexV, rdp, rdX, encE_mk]
  repeat refine sg ?_
  refine RVn_call (c_law07x_told g 2 2 (by decide) hty) ?_
  simp [lexV, rdp, rdX, encE_mk]
  repeat refine sg ?_
  refine RVn_callC ((by have h := c_read_Cursor_Take g [44] b ⟨rdK, none⟩ (by decide); rw [rd7.1, rd8] at h; exact h)) rfl ?_
  simp [lexV, rdp, rdX, encE_mk]
  repeat refine sg ?_
  refine RVn_callC ((by have h := c_read_Cursor_Next g [98] b ⟨rdN, none⟩ (by decide); rw [rd7.2.1] at h; exact h)) rfl ?_
  simp [lexV, rdp, rdX, encE_mk]
  repeat refine sg ?_
  refine RVn_callC ((by have h := c_read_Cursor_Take g [120] b ⟨rdN, none⟩ (by decide); rw [rd7.2.2, rd9] at h; exact h)) rfl ?_
  simp [lexV, rdp, rdX, encE_mk]
  repeat refine sg ?_
  refine hK10 _ ?_
  clear hK10 K10
  refine AT_ret ?_
  simp [lexV, rdp, Tryd.f7]

theorem toldA {g : Nat → Option (List AV)} (e : AV) (k n : Int) (h : (k = 0 ∧ e = .nilIface) ∨ (k ≠ 0 ∧ e = .iface 110 (.agg [.int .i64 k, .int .i64 n]))) (hty : g 1 = some errTy) : Valid Tryd.prog (G0 g false) 29 [e, .int .i64 k, .int .i64 n] (.bool true) := by
 rcases h with ⟨rfl, rfl⟩ | ⟨hk, rfl⟩
 · exact c_law07x_told_0 g n
 · exact c_law07x_told g k n hk hty

end Go.Proofs.YtpjkdaechknogaaDoor
end

section
/- Contracts. -/
set_option linter.all false
set_option maxHeartbeats 1000000
set_option maxRecDepth 10000
namespace Go.Proofs.YtpjkdaechknogaaDoor
open Go Go.Pv
variable (g : Nat → Option (List AV)) (rnd : Bool)

theorem c_ref04x_Count : ∀ t : Ty, fit t → ∀ j0 : Nat, j0 ≤ 1000000000000000 → Valid Tryd.prog (G0 g rnd) 34 [.agg (encTy t), .int .i64 j0] (.int .i64 (cnt t j0)) := by
 intro t
 induction t using Ty.ind with
 | h n ts p ih =>
 intro hf j0 hj
 rw [fit] at hf
 obtain ⟨hf1, hf2, hf3⟩ := hf
 refine valid_of [] Tryd.func34 rfl (by kernel_rfl) ?_
 refine AT_seq_region fun K1 hK1 => ?_
 simp [row_map, tdiv50, Tryd.f34]
 repeat refine sg ?_
 refine hK1 _ ?_
 clear hK1 K1
 refine AT_seq_region fun K2 hK2 => ?_
 simp [row_map, tdiv50]
 repeat refine sg ?_
 refine hK2 _ ?_
 clear hK2 K2
 refine AT_seq_k fun K3 hK3 => ?_
 refine AT_seq_region fun K4 hK4 => ?_
 simp [row_map, tdiv50]
 repeat refine sg ?_
 refine hK4 _ ?_
 clear hK4 K4
 refine AT_block ?_
 refine AT_loop_q [2,1,5] [2] (fun j s => ∃ k c, k ≤ ts.length ∧ cnts ts (j0 + 1 + n.length / 50) = cnts (ts.drop k) c ∧ j = ts.length - k ∧ s = { n := 32, tm := [(2, .lp 2 0), (1, .v (.int .i64 (c : Nat)) none), (5, .v (.int .i64 k) none)], bx := [(2, encTy (.mk n ts p))], tb := [], sh := [], hint := [] }) (ts.length) (by first | rfl | simp) ?_ ?_
 ·
  exact ⟨0, j0 + 1 + n.length / 50, by simp⟩
 ·
  rintro j s ⟨k, c, hk, hc, rfl, rfl⟩ K5 hK5
  refine AT_seq_k fun K6 hK6 => ?_
  by_cases hkt : k < ts.length
  ·
   refine AT_seq_region fun K7 hK7 => ?_
   simp [row_map, tdiv50, hkt]
   repeat refine sg ?_
   refine hK7 _ ?_
   clear hK7 K7
   refine AT_cond (g := none) rfl (fun hb21 => ?_) (fun hb21 => ?_)
   ·
    try simp [row_map, tdiv50, hkt] at hb21
    refine AT_skip ?_
    try simp only [nrm, reduceIte, Nat.reduceEqDiff]
    refine hK6 _ ?_
    refine AT_seq_k fun K8 hK8 => ?_
    refine AT_block ?_
    refine AT_region_q fun K9 hK9 => ?_
    simp [row_map, tdiv50, hkt]
    repeat refine sg ?_
    refine RVn_call (ih ts[k] (by simp) (fits_mem hf3 (by simp)) c (by omega)) ?_
    simp [row_map, tdiv50, hkt]
    repeat refine sg ?_
    refine hK9 _ ?_
    clear hK9 K9
    try simp only [nrm, reduceIte, Nat.reduceEqDiff]
    refine hK8 _ ?_
    refine AT_region_q fun K10 hK10 => ?_
    simp [row_map, tdiv50, hkt]
    repeat refine sg ?_
    refine hK10 _ ?_
    clear hK10 K10
    try simp only [nrm, reduceIte, Nat.reduceEqDiff]
    refine hK5 _ (by first | rfl | simp) (ts.length - (k+1)) (by omega) ?_
    refine ⟨k+1, cnt ts[k] c, by omega, ?_, by omega, by simp⟩
    rw [hc, List.drop_eq_getElem_cons hkt, cnts_cons, if_pos (by omega)]
   ·
    try simp [row_map, tdiv50, hkt] at hb21
    refine AT_exit ?_
    try simp only [nrm, reduceIte, Nat.reduceEqDiff]
    refine hK3 _ ?_
    refine AT_seq_region fun K11 hK11 => ?_
    simp [row_map, tdiv50, hkt]
    repeat refine sg ?_
    refine hK11 _ ?_
    clear hK11 K11
    refine AT_ret ?_
    simp [row_map, tdiv50, Tryd.f34]
    first
    | (rw [show cnt (.mk n ts p) j0 = cnts ts (j0 + 1 + n.length / 50) by simp [cnt], hc, List.drop_eq_getElem_cons hkt, cnts_cons, if_neg (by omega)])
    | (rw [show cnt (.mk n ts p) j0 = cnts ts (j0 + 1 + n.length / 50) by simp [cnt], hc, List.drop_eq_nil_of_le (by omega)]; rfl)
  ·
   refine AT_seq_region fun K12 hK12 => ?_
   simp [row_map, tdiv50, hkt]
   repeat refine sg ?_
   refine hK12 _ ?_
   clear hK12 K12
   refine AT_cond (b := false) (g := none) (by simp [hkt]) (fun hb => ?_) (fun hb => ?_)
   ·
    cases hb
   ·
    clear hb
    refine AT_exit ?_
    try simp only [nrm, reduceIte, Nat.reduceEqDiff]
    refine hK3 _ ?_
    refine AT_seq_region fun K13 hK13 => ?_
    simp [row_map, tdiv50, hkt]
    repeat refine sg ?_
    refine hK13 _ ?_
    clear hK13 K13
    refine AT_ret ?_
    simp [row_map, tdiv50, Tryd.f34]
    first
    | (rw [show cnt (.mk n ts p) j0 = cnts ts (j0 + 1 + n.length / 50) by simp [cnt], hc, List.drop_eq_getElem_cons hkt, cnts_cons, if_neg (by omega)])
    | (rw [show cnt (.mk n ts p) j0 = cnts ts (j0 + 1 + n.length / 50) by simp [cnt], hc, List.drop_eq_nil_of_le (by omega)]; rfl)

theorem c_ref04x_Few (t : Ty) (hf : fit t) : Valid Tryd.prog (G0 g rnd) 8 [.agg (encTy t)] (.bool (decide (cnt t 0 ≤ 200))) := by

 refine valid_of [] Tryd.func8 rfl (by kernel_rfl) ?_
 refine AT_seq_region fun K1 hK1 => ?_
 simp [Tryd.f8]
 repeat refine sg ?_
 refine hK1 _ ?_
 clear hK1 K1
 refine AT_seq_region fun K2 hK2 => ?_
 simp
 repeat refine sg ?_
 refine RVn_call (c_ref04x_Count g rnd t hf 0 (by omega)) ?_
 simp
 repeat refine sg ?_
 refine hK2 _ ?_
 clear hK2 K2
 refine AT_ret ?_
 simp [Tryd.f8]
 omega

end Go.Proofs.YtpjkdaechknogaaDoor
end

section
/- Contracts: expressions, counted and compared. -/
set_option linter.all false
set_option maxHeartbeats 1000000
set_option maxRecDepth 10000
namespace Go.Proofs.YtpjkdaechknogaaDoor
open Go Go.Pv
variable (g : Nat → Option (List AV)) (rnd : Bool)

theorem c_ref04x_Same (t u : Ty) (hw : wt t ≤ 1099511627776) : Valid Tryd.prog (G0 g rnd) 16 [.agg (encTy t), .agg (encTy u)] (.bool (cmpT t u == 0)) := by

 refine valid_of [] Tryd.func16 rfl (by kernel_rfl) ?_
 refine AT_seq_region fun K1 hK1 => ?_
 simp [Tryd.f16]
 repeat refine sg ?_
 refine hK1 _ ?_
 clear hK1 K1
 refine AT_seq_region fun K2 hK2 => ?_
 simp
 repeat refine sg ?_
 refine RVn_call (c_ref04x_Compare g rnd t u hw) ?_
 simp
 repeat refine sg ?_
 refine hK2 _ ?_
 clear hK2 K2
 refine AT_ret ?_
 simp [Tryd.f16]

theorem c_ref05x_Count : ∀ e : Exp, fitE e → ∀ j0 : Nat, j0 ≤ 100000000000000 → Valid Tryd.prog (G0 g rnd) 35 [.agg (encE e), .int .i64 j0] (.int .i64 (cntE e j0)) := by
 intro e
 induction e using Exp.ind with
 | h kd n t ta l p ih =>
 intro hf j0 hj
 rw [fitE] at hf
 obtain ⟨hf1, hf2, ⟨hf3, hf4⟩, hf5, hf6⟩ := hf
 refine valid_of [] Tryd.func35 rfl (by kernel_rfl) ?_
 refine AT_seq_region fun K1 hK1 => ?_
 simp [row_map, tdiv50, Tryd.f35]
 repeat refine sg ?_
 refine hK1 _ ?_
 clear hK1 K1
 refine AT_seq_region fun K2 hK2 => ?_
 simp [row_map, tdiv50]
 repeat refine sg ?_
 refine RVn_call (c_ref04x_Count g rnd t hf2 (j0 + n.length / 50) (by omega)) ?_
 simp [row_map, tdiv50]
 repeat refine sg ?_
 refine hK2 _ ?_
 clear hK2 K2
 refine AT_seq_k fun K3 hK3 => ?_
 refine AT_seq_region fun K4 hK4 => ?_
 simp [row_map, tdiv50]
 repeat refine sg ?_
 refine hK4 _ ?_
 clear hK4 K4
 refine AT_block ?_
 refine AT_loop_q [2,1,5] [2] (fun j s => ∃ k c, k ≤ ta.length ∧ cntE (.mk kd n t ta l p) j0 = cntEs l (cnts (ta.drop k) c) ∧ j = ta.length - k ∧ s = { n := 53, tm := [(2, .lp 2 0), (1, .v (.int .i64 (c : Nat)) none), (5, .v (.int .i64 k) none)], bx := [(2, encE (.mk kd n t ta l p))], tb := [], sh := [], hint := [] }) (ta.length) (by first | rfl | simp) ?_ ?_
 ·
  exact ⟨0, cnt t (j0 + n.length / 50), by simp [cntE]⟩
 ·
  rintro j s ⟨k, c, hk, hc, rfl, rfl⟩ K5 hK5
  refine AT_seq_k fun K6 hK6 => ?_
  by_cases hkt : k < ta.length
  ·
   refine AT_seq_region fun K7 hK7 => ?_
   simp [row_map, tdiv50, hkt]
   repeat refine sg ?_
   refine hK7 _ ?_
   clear hK7 K7
   refine AT_cond (g := none) rfl (fun hb24 => ?_) (fun hb24 => ?_)
   ·
    try simp [row_map, tdiv50, hkt] at hb24
    refine AT_skip ?_
    try simp only [nrm, reduceIte, Nat.reduceEqDiff]
    refine hK6 _ ?_
    refine AT_seq_k fun K8 hK8 => ?_
    refine AT_block ?_
    refine AT_region_q fun K9 hK9 => ?_
    simp [row_map, tdiv50, hkt]
    repeat refine sg ?_
    refine RVn_call (c_ref04x_Count g rnd ta[k] (fits_mem hf4 (by simp)) c (by omega)) ?_
    simp [row_map, tdiv50, hkt]
    repeat refine sg ?_
    refine hK9 _ ?_
    clear hK9 K9
    try simp only [nrm, reduceIte, Nat.reduceEqDiff]
    refine hK8 _ ?_
    refine AT_region_q fun K10 hK10 => ?_
    simp [row_map, tdiv50, hkt]
    repeat refine sg ?_
    refine hK10 _ ?_
    clear hK10 K10
    try simp only [nrm, reduceIte, Nat.reduceEqDiff]
    refine hK5 _ (by first | rfl | simp) (ta.length - (k+1)) (by omega) ?_
    refine ⟨k+1, cnt ta[k] c, by omega, ?_, by omega, by simp⟩
    rw [hc, List.drop_eq_getElem_cons hkt, cnts_cons, if_pos (by omega)]
   ·
    try simp [row_map, tdiv50, hkt] at hb24
    refine AT_exit ?_
    try simp only [nrm, reduceIte, Nat.reduceEqDiff]
    refine hK3 _ ?_
    refine AT_seq_k fun K11 hK11 => ?_
    refine AT_seq_region fun K12 hK12 => ?_
    simp [row_map, tdiv50, hkt]
    repeat refine sg ?_
    refine hK12 _ ?_
    clear hK12 K12
    refine AT_block ?_
    refine AT_loop_q [2,1,6] [2] (fun j s => ∃ k c, k ≤ l.length ∧ cntE (.mk kd n t ta l p) j0 = cntEs (l.drop k) c ∧ j = l.length - k ∧ s = { n := 53, tm := [(2, .lp 2 0), (1, .v (.int .i64 (c : Nat)) none), (6, .v (.int .i64 k) none)], bx := [(2, encE (.mk kd n t ta l p))], tb := [], sh := [], hint := [] }) (l.length) (by first | rfl | simp) ?_ ?_
    ·
     refine ⟨0, c, by omega, ?_, by omega, by simp⟩
     first
     | (rw [hc, List.drop_eq_getElem_cons hkt, cnts_cons, if_neg (by omega)]; rfl)
     | (rw [hc, List.drop_eq_nil_of_le (by omega)]; rfl)
    ·
     rintro j s ⟨k, c, hk, hc2, rfl, rfl⟩ K13 hK13
     refine AT_seq_k fun K14 hK14 => ?_
     by_cases hkl : k < l.length
     ·
      refine AT_seq_region fun K15 hK15 => ?_
      simp [row_map, tdiv50, hkt, hkl]
      repeat refine sg ?_
      refine hK15 _ ?_
      clear hK15 K15
      refine AT_cond (g := none) rfl (fun hb42 => ?_) (fun hb42 => ?_)
      ·
       try simp [row_map, tdiv50, hkt, hkl] at hb42
       refine AT_skip ?_
       try simp only [nrm, reduceIte, Nat.reduceEqDiff]
       refine hK14 _ ?_
       refine AT_seq_k fun K16 hK16 => ?_
       refine AT_block ?_
       refine AT_region_q fun K17 hK17 => ?_
       simp [row_map, tdiv50, hkt, hkl]
       repeat refine sg ?_
       refine RVn_call (ih l[k] (by simp) (fitEs_mem hf6 (by simp)) c (by omega)) ?_
       simp [row_map, tdiv50, hkt, hkl]
       repeat refine sg ?_
       refine hK17 _ ?_
       clear hK17 K17
       try simp only [nrm, reduceIte, Nat.reduceEqDiff]
       refine hK16 _ ?_
       refine AT_region_q fun K18 hK18 => ?_
       simp [row_map, tdiv50, hkt, hkl]
       repeat refine sg ?_
       refine hK18 _ ?_
       clear hK18 K18
       try simp only [nrm, reduceIte, Nat.reduceEqDiff]
       refine hK13 _ (by first | rfl | simp) (l.length - (k+1)) (by omega) ?_
       refine ⟨k+1, cntE l[k] c, by omega, ?_, by omega, by simp⟩
       rw [hc2, List.drop_eq_getElem_cons hkl, cntEs_cons, if_pos (by omega)]
      ·
       try simp [row_map, tdiv50, hkt, hkl] at hb42
       refine AT_exit ?_
       try simp only [nrm, reduceIte, Nat.reduceEqDiff]
       refine hK11 _ ?_
       refine AT_seq_region fun K19 hK19 => ?_
       simp [row_map, tdiv50, hkt, hkl]
       repeat refine sg ?_
       refine hK19 _ ?_
       clear hK19 K19
       refine AT_ret ?_
       simp [row_map, tdiv50, Tryd.f35]
       first
       | (rw [hc2, List.drop_eq_getElem_cons hkl, cntEs_cons, if_neg (by omega)])
       | (rw [hc2, List.drop_eq_nil_of_le (by omega)]; rfl)
     ·
      refine AT_seq_region fun K20 hK20 => ?_
      simp [row_map, tdiv50, hkt, hkl]
      repeat refine sg ?_
      refine hK20 _ ?_
      clear hK20 K20
      refine AT_cond (b := false) (g := none) (by simp [hkt, hkl]) (fun hb => ?_) (fun hb => ?_)
      ·
       cases hb
      ·
       clear hb
       refine AT_exit ?_
       try simp only [nrm, reduceIte, Nat.reduceEqDiff]
       refine hK11 _ ?_
       refine AT_seq_region fun K21 hK21 => ?_
       simp [row_map, tdiv50, hkt, hkl]
       repeat refine sg ?_
       refine hK21 _ ?_
       clear hK21 K21
       refine AT_ret ?_
       simp [row_map, tdiv50, Tryd.f35]
       first
       | (rw [hc2, List.drop_eq_getElem_cons hkl, cntEs_cons, if_neg (by omega)])
       | (rw [hc2, List.drop_eq_nil_of_le (by omega)]; rfl)
  ·
   refine AT_seq_region fun K22 hK22 => ?_
   simp [row_map, tdiv50, hkt]
   repeat refine sg ?_
   refine hK22 _ ?_
   clear hK22 K22
   refine AT_cond (b := false) (g := none) (by simp [hkt]) (fun hb => ?_) (fun hb => ?_)
   ·
    cases hb
   ·
    clear hb
    refine AT_exit ?_
    try simp only [nrm, reduceIte, Nat.reduceEqDiff]
    refine hK3 _ ?_
    refine AT_seq_k fun K23 hK23 => ?_
    refine AT_seq_region fun K24 hK24 => ?_
    simp [row_map, tdiv50, hkt]
    repeat refine sg ?_
    refine hK24 _ ?_
    clear hK24 K24
    refine AT_block ?_
    refine AT_loop_q [2,1,6] [2] (fun j s => ∃ k c, k ≤ l.length ∧ cntE (.mk kd n t ta l p) j0 = cntEs (l.drop k) c ∧ j = l.length - k ∧ s = { n := 53, tm := [(2, .lp 2 0), (1, .v (.int .i64 (c : Nat)) none), (6, .v (.int .i64 k) none)], bx := [(2, encE (.mk kd n t ta l p))], tb := [], sh := [], hint := [] }) (l.length) (by first | rfl | simp) ?_ ?_
    ·
     refine ⟨0, c, by omega, ?_, by omega, by simp⟩
     first
     | (rw [hc, List.drop_eq_getElem_cons hkt, cnts_cons, if_neg (by omega)]; rfl)
     | (rw [hc, List.drop_eq_nil_of_le (by omega)]; rfl)
    ·
     rintro j s ⟨k, c, hk, hc2, rfl, rfl⟩ K25 hK25
     refine AT_seq_k fun K26 hK26 => ?_
     by_cases hkl : k < l.length
     ·
      refine AT_seq_region fun K27 hK27 => ?_
      simp [row_map, tdiv50, hkt, hkl]
      repeat refine sg ?_
      refine hK27 _ ?_
      clear hK27 K27
      refine AT_cond (g := none) rfl (fun hb42 => ?_) (fun hb42 => ?_)
      ·
       try simp [row_map, tdiv50, hkt, hkl] at hb42
       refine AT_skip ?_
       try simp only [nrm, reduceIte, Nat.reduceEqDiff]
       refine hK26 _ ?_
       refine AT_seq_k fun K28 hK28 => ?_
       refine AT_block ?_
       refine AT_region_q fun K29 hK29 => ?_
       simp [row_map, tdiv50, hkt, hkl]
       repeat refine sg ?_
       refine RVn_call (ih l[k] (by simp) (fitEs_mem hf6 (by simp)) c (by omega)) ?_
       simp [row_map, tdiv50, hkt, hkl]
       repeat refine sg ?_
       refine hK29 _ ?_
       clear hK29 K29
       try simp only [nrm, reduceIte, Nat.reduceEqDiff]
       refine hK28 _ ?_
       refine AT_region_q fun K30 hK30 => ?_
       simp [row_map, tdiv50, hkt, hkl]
       repeat refine sg ?_
       refine hK30 _ ?_
       clear hK30 K30
       try simp only [nrm, reduceIte, Nat.reduceEqDiff]
       refine hK25 _ (by first | rfl | simp) (l.length - (k+1)) (by omega) ?_
       refine ⟨k+1, cntE l[k] c, by omega, ?_, by omega, by simp⟩
       rw [hc2, List.drop_eq_getElem_cons hkl, cntEs_cons, if_pos (by omega)]
      ·
       try simp [row_map, tdiv50, hkt, hkl] at hb42
       refine AT_exit ?_
       try simp only [nrm, reduceIte, Nat.reduceEqDiff]
       refine hK23 _ ?_
       refine AT_seq_region fun K31 hK31 => ?_
       simp [row_map, tdiv50, hkt, hkl]
       repeat refine sg ?_
       refine hK31 _ ?_
       clear hK31 K31
       refine AT_ret ?_
       simp [row_map, tdiv50, Tryd.f35]
       first
       | (rw [hc2, List.drop_eq_getElem_cons hkl, cntEs_cons, if_neg (by omega)])
       | (rw [hc2, List.drop_eq_nil_of_le (by omega)]; rfl)
     ·
      refine AT_seq_region fun K32 hK32 => ?_
      simp [row_map, tdiv50, hkt, hkl]
      repeat refine sg ?_
      refine hK32 _ ?_
      clear hK32 K32
      refine AT_cond (b := false) (g := none) (by simp [hkt, hkl]) (fun hb => ?_) (fun hb => ?_)
      ·
       cases hb
      ·
       clear hb
       refine AT_exit ?_
       try simp only [nrm, reduceIte, Nat.reduceEqDiff]
       refine hK23 _ ?_
       refine AT_seq_region fun K33 hK33 => ?_
       simp [row_map, tdiv50, hkt, hkl]
       repeat refine sg ?_
       refine hK33 _ ?_
       clear hK33 K33
       refine AT_ret ?_
       simp [row_map, tdiv50, Tryd.f35]
       first
       | (rw [hc2, List.drop_eq_getElem_cons hkl, cntEs_cons, if_neg (by omega)])
       | (rw [hc2, List.drop_eq_nil_of_le (by omega)]; rfl)

theorem c_ref05x_Few (e : Exp) (hf : fitE e) : Valid Tryd.prog (G0 g rnd) 9 [.agg (encE e)] (.bool (decide (cntE e 0 ≤ 250))) := by

 refine valid_of [] Tryd.func9 rfl (by kernel_rfl) ?_
 refine AT_seq_region fun K1 hK1 => ?_
 simp [Tryd.f9]
 repeat refine sg ?_
 refine hK1 _ ?_
 clear hK1 K1
 refine AT_seq_region fun K2 hK2 => ?_
 simp
 repeat refine sg ?_
 refine RVn_call (c_ref05x_Count g rnd e hf 0 (by omega)) ?_
 simp
 repeat refine sg ?_
 refine hK2 _ ?_
 clear hK2 K2
 refine AT_ret ?_
 simp [Tryd.f9]
 omega

theorem c_ref05x_sameTypes (a b : List Ty) (hw : wts a ≤ 1099511627776) : Valid Tryd.prog (G0 g rnd) 43 [.slice (a.map encTy), .slice (b.map encTy)] (.bool (sameTs a b)) := by
 have hla := wts_len a
 refine valid_of [] Tryd.func43 rfl (by kernel_rfl) ?_
 refine AT_seq_region fun K1 hK1 => ?_
 simp [row_map, Tryd.f43]
 repeat refine sg ?_
 refine hK1 _ ?_
 clear hK1 K1
 refine AT_seq_k fun K2 hK2 => ?_
 refine AT_seq_region fun K3 hK3 => ?_
 simp [row_map]
 repeat refine sg ?_
 refine hK3 _ ?_
 clear hK3 K3
 refine AT_cond (g := none) rfl (fun hb10 => ?_) (fun hb10 => ?_)
 ·
  try simp [row_map] at hb10
  refine AT_seq_region fun K4 hK4 => ?_
  simp [row_map, hb10]
  repeat refine sg ?_
  refine hK4 _ ?_
  clear hK4 K4
  refine AT_ret ?_
  simp [row_map, Tryd.f43]
  first
  | (rw [sameTs_len (show a.length ≠ b.length by omega)]; done)
  | (rw [hc, hda, hdb, sameTs_cons]; simp [hb26]; done)
  | (rw [hc, List.drop_eq_nil_of_le hb14, List.drop_eq_nil_of_le (show b.length ≤ k by omega)]; rfl)
 ·
  try simp [row_map] at hb10
  have hab : a.length = b.length := by omega
  refine AT_skip ?_
  try simp only [nrm, reduceIte, Nat.reduceEqDiff]
  refine hK2 _ ?_
  refine AT_seq_k fun K5 hK5 => ?_
  refine AT_seq_region fun K6 hK6 => ?_
  simp [row_map]
  repeat refine sg ?_
  refine hK6 _ ?_
  clear hK6 K6
  refine AT_block ?_
  refine AT_loop_q [0,1,5] [] (fun j s => ∃ k, k ≤ a.length ∧ sameTs a b = sameTs (a.drop k) (b.drop k) ∧ j = a.length - k ∧ s = { n := 27, tm := [(0, .v (.slice (a.map encTy)) none), (1, .v (.slice (b.map encTy)) none), (5, .v (.int .i64 k) none)], bx := [], tb := [], sh := [], hint := [] }) (a.length) (by first | rfl | simp) ?_ ?_
  ·
   exact ⟨0, by simp⟩
  ·
   rintro j s ⟨k, hk, hc, rfl, rfl⟩ K7 hK7
   refine AT_seq_k fun K8 hK8 => ?_
   refine AT_seq_region fun K9 hK9 => ?_
   simp [row_map]
   repeat refine sg ?_
   refine hK9 _ ?_
   clear hK9 K9
   refine AT_cond (g := none) rfl (fun hb14 => ?_) (fun hb14 => ?_)
   ·
    try simp [row_map] at hb14
    refine AT_skip ?_
    try simp only [nrm, reduceIte, Nat.reduceEqDiff]
    refine hK8 _ ?_
    refine AT_seq_k fun K10 hK10 => ?_
    refine AT_block ?_
    refine AT_seq_draw Pt.mixed (by kernel_rfl) fun K11 hK11 => ?_
    have hku : k < b.length := by omega
    have hm := wts_mem (l := a) (t := a[k]) (by simp)
    have hda := List.drop_eq_getElem_cons hb14
    have hdb := List.drop_eq_getElem_cons hku
    simp [row_map, hku, hb14]
    repeat refine sg ?_
    refine RVdn_call (c_ref04x_Same g rnd a[k] b[k] (by omega)) ?_
    simp [row_map, hku, hb14]
    repeat refine sg ?_
    refine hK11 _ ?_
    clear hK11 K11
    refine AT_cond (g := none) rfl (fun hb26 => ?_) (fun hb26 => ?_)
    ·
     try simp [row_map, hb14] at hb26
     refine AT_seq_region fun K12 hK12 => ?_
     simp [row_map, hb14, hb26]
     repeat refine sg ?_
     refine hK12 _ ?_
     clear hK12 K12
     refine AT_ret ?_
     simp [row_map, Tryd.f43]
     first
     | (rw [sameTs_len (show a.length ≠ b.length by omega)]; done)
     | (rw [hc, hda, hdb, sameTs_cons]; simp [hb26]; done)
     | (rw [hc, List.drop_eq_nil_of_le hb14, List.drop_eq_nil_of_le (show b.length ≤ k by omega)]; rfl)
    ·
     try simp [row_map, hb14] at hb26
     refine AT_skip ?_
     try simp only [nrm, reduceIte, Nat.reduceEqDiff]
     refine hK10 _ ?_
     refine AT_region_q fun K13 hK13 => ?_
     simp [row_map, hb14, hb26]
     repeat refine sg ?_
     refine hK13 _ ?_
     clear hK13 K13
     try simp only [nrm, reduceIte, Nat.reduceEqDiff]
     refine hK7 _ (by first | rfl | simp) (a.length - (k+1)) (by omega) ?_
     refine ⟨k+1, by omega, ?_, by omega, by simp⟩
     rw [hc, hda, hdb, sameTs_cons]; simp [hb26]
   ·
    try simp [row_map] at hb14
    refine AT_exit ?_
    try simp only [nrm, reduceIte, Nat.reduceEqDiff]
    refine hK5 _ ?_
    refine AT_seq_region fun K14 hK14 => ?_
    simp [row_map, hb14]
    repeat refine sg ?_
    refine hK14 _ ?_
    clear hK14 K14
    refine AT_ret ?_
    simp [row_map, Tryd.f43]
    first
    | (rw [sameTs_len (show a.length ≠ b.length by omega)]; done)
    | (rw [hc, hda, hdb, sameTs_cons]; simp [hb26]; done)
    | (rw [hc, List.drop_eq_nil_of_le hb14, List.drop_eq_nil_of_le (show b.length ≤ k by omega)]; rfl)

theorem c_ref05x_Same : ∀ e f : Exp, wtE e ≤ 1000000000 → Valid Tryd.prog (G0 g rnd) 17 [.agg (encE e), .agg (encE f)] (.bool (sameE e f)) := by
 intro e
 induction e using Exp.ind with
 | h kd n t ta l p ih =>
 intro f hw
 obtain ⟨kf, m, u, ua, ul, q⟩ := f
 have hw2 : n.length + 1 + wt t + wts ta + wtEs l ≤ 1000000000 := by simpa [wtE_mk] using hw
 have hln := wtEs_len l
 have hla := wts_len ta
 refine valid_of [] Tryd.func17 rfl (by kernel_rfl) ?_
 refine AT_seq_region fun K1 hK1 => ?_
 simp [row_map, Tryd.f17]
 repeat refine sg ?_
 refine hK1 _ ?_
 clear hK1 K1
 refine AT_seq_k fun K2 hK2 => ?_
 cases h1 : (kd != kf)
 ·
  cases h2 : (n == m)
  ·
   refine AT_seq_region fun K3 hK3 => ?_
   simp [row_map, h1, h2]
   repeat refine sg ?_
   try (
    refine RVn_call (c_ref04x_Same g rnd t u (by omega)) ?_
    simp [row_map, h1, h2]
    repeat refine sg ?_)
   try (
    refine RVn_call (c_ref05x_sameTypes g rnd ta ua (by omega)) ?_
    simp [row_map, h1, h2]
    repeat refine sg ?_)
   refine hK3 _ ?_
   clear hK3 K3
   refine AT_cond (b := true) (g := none) (by simp [h1, h2]) (fun hb => ?_) (fun hb => ?_)
   ·
    clear hb
    refine AT_seq_region fun K4 hK4 => ?_
    simp [row_map, h1, h2]
    repeat refine sg ?_
    refine hK4 _ ?_
    clear hK4 K4
    refine AT_ret ?_
    simp [row_map, Tryd.f17]
    first
    | (simp [sameE, show (kd == kf) = false by simpa using h1]; done)
    | (simp [sameE, h2]; done)
    | (simp [sameE, h3]; done)
    | (simp [sameE, h4]; done)
    | (simp [sameE, sameEs_len (show l.length ≠ ul.length by omega)]; done)
    | (have he : sameE (.mk kd n t ta l p) (.mk kf m u ua ul q) = sameEs l ul := by simp [sameE, show (kd == kf) = true by simpa using h1, h2, h3, h4]
       rw [he, hc, hda, hdb, sameEs_cons]; simp [hb61]; done)
    | (have he : sameE (.mk kd n t ta l p) (.mk kf m u ua ul q) = sameEs l ul := by simp [sameE, show (kd == kf) = true by simpa using h1, h2, h3, h4]
       rw [he, hc, List.drop_eq_nil_of_le hb47, List.drop_eq_nil_of_le (show ul.length ≤ k by omega)]; simp [sameEs]; done)
   ·
    cases hb
  ·
   cases h3 : (cmpT t u == 0)
   ·
    refine AT_seq_region fun K5 hK5 => ?_
    simp [row_map, h1, h2, h3]
    repeat refine sg ?_
    try (
     refine RVn_call (c_ref04x_Same g rnd t u (by omega)) ?_
     simp [row_map, h1, h2, h3]
     repeat refine sg ?_)
    try (
     refine RVn_call (c_ref05x_sameTypes g rnd ta ua (by omega)) ?_
     simp [row_map, h1, h2, h3]
     repeat refine sg ?_)
    refine hK5 _ ?_
    clear hK5 K5
    refine AT_cond (b := true) (g := none) (by simp [h1, h2, h3]) (fun hb => ?_) (fun hb => ?_)
    ·
     clear hb
     refine AT_seq_region fun K6 hK6 => ?_
     simp [row_map, h1, h2, h3]
     repeat refine sg ?_
     refine hK6 _ ?_
     clear hK6 K6
     refine AT_ret ?_
     simp [row_map, Tryd.f17]
     first
     | (simp [sameE, show (kd == kf) = false by simpa using h1]; done)
     | (simp [sameE, h2]; done)
     | (simp [sameE, h3]; done)
     | (simp [sameE, h4]; done)
     | (simp [sameE, sameEs_len (show l.length ≠ ul.length by omega)]; done)
     | (have he : sameE (.mk kd n t ta l p) (.mk kf m u ua ul q) = sameEs l ul := by simp [sameE, show (kd == kf) = true by simpa using h1, h2, h3, h4]
        rw [he, hc, hda, hdb, sameEs_cons]; simp [hb61]; done)
     | (have he : sameE (.mk kd n t ta l p) (.mk kf m u ua ul q) = sameEs l ul := by simp [sameE, show (kd == kf) = true by simpa using h1, h2, h3, h4]
        rw [he, hc, List.drop_eq_nil_of_le hb47, List.drop_eq_nil_of_le (show ul.length ≤ k by omega)]; simp [sameEs]; done)
    ·
     cases hb
   ·
    cases h4 : (sameTs ta ua)
    ·
     refine AT_seq_region fun K7 hK7 => ?_
     simp [row_map, h1, h2, h3, h4]
     repeat refine sg ?_
     try (
      refine RVn_call (c_ref04x_Same g rnd t u (by omega)) ?_
      simp [row_map, h1, h2, h3, h4]
      repeat refine sg ?_)
     try (
      refine RVn_call (c_ref05x_sameTypes g rnd ta ua (by omega)) ?_
      simp [row_map, h1, h2, h3, h4]
      repeat refine sg ?_)
     refine hK7 _ ?_
     clear hK7 K7
     refine AT_cond (b := true) (g := none) (by simp [h1, h2, h3, h4]) (fun hb => ?_) (fun hb => ?_)
     ·
      clear hb
      refine AT_seq_region fun K8 hK8 => ?_
      simp [row_map, h1, h2, h3, h4]
      repeat refine sg ?_
      refine hK8 _ ?_
      clear hK8 K8
      refine AT_ret ?_
      simp [row_map, Tryd.f17]
      first
      | (simp [sameE, show (kd == kf) = false by simpa using h1]; done)
      | (simp [sameE, h2]; done)
      | (simp [sameE, h3]; done)
      | (simp [sameE, h4]; done)
      | (simp [sameE, sameEs_len (show l.length ≠ ul.length by omega)]; done)
      | (have he : sameE (.mk kd n t ta l p) (.mk kf m u ua ul q) = sameEs l ul := by simp [sameE, show (kd == kf) = true by simpa using h1, h2, h3, h4]
         rw [he, hc, hda, hdb, sameEs_cons]; simp [hb61]; done)
      | (have he : sameE (.mk kd n t ta l p) (.mk kf m u ua ul q) = sameEs l ul := by simp [sameE, show (kd == kf) = true by simpa using h1, h2, h3, h4]
         rw [he, hc, List.drop_eq_nil_of_le hb47, List.drop_eq_nil_of_le (show ul.length ≤ k by omega)]; simp [sameEs]; done)
     ·
      cases hb
    ·
     by_cases h5 : (l.length : Int) = ul.length
     ·
      have h5b : ((l.length : Int) != ul.length) = false := by simpa using h5
      refine AT_seq_region fun K9 hK9 => ?_
      simp [row_map, h1, h2, h3, h4, h5b]
      repeat refine sg ?_
      try (
       refine RVn_call (c_ref04x_Same g rnd t u (by omega)) ?_
       simp [row_map, h1, h2, h3, h4, h5b]
       repeat refine sg ?_)
      try (
       refine RVn_call (c_ref05x_sameTypes g rnd ta ua (by omega)) ?_
       simp [row_map, h1, h2, h3, h4, h5b]
       repeat refine sg ?_)
      refine hK9 _ ?_
      clear hK9 K9
      refine AT_cond (b := false) (g := none) (by simp [h1, h2, h3, h4, h5b]) (fun hb => ?_) (fun hb => ?_)
      ·
       cases hb
      ·
       clear hb
       refine AT_skip ?_
       try simp only [nrm, reduceIte, Nat.reduceEqDiff]
       refine hK2 _ ?_
       refine AT_seq_k fun K10 hK10 => ?_
       refine AT_seq_region fun K11 hK11 => ?_
       simp [row_map, h1, h2, h3, h4, h5b]
       repeat refine sg ?_
       refine hK11 _ ?_
       clear hK11 K11
       refine AT_block ?_
       refine AT_loop_q [2,3,5] [2,3] (fun j s => ∃ k, k ≤ l.length ∧ sameEs l ul = sameEs (l.drop k) (ul.drop k) ∧ j = l.length - k ∧ s = { n := 62, tm := [(2, .lp 2 0), (3, .lp 3 0), (5, .v (.int .i64 k) none)], bx := [(2, encE (.mk kd n t ta l p)), (3, encE (.mk kf m u ua ul q))], tb := [], sh := [], hint := [] }) (l.length) (by first | rfl | simp) ?_ ?_
       ·
        exact ⟨0, by simp⟩
       ·
        rintro j s ⟨k, hk, hc, rfl, rfl⟩ K12 hK12
        refine AT_seq_k fun K13 hK13 => ?_
        refine AT_seq_region fun K14 hK14 => ?_
        simp [row_map, h1, h2, h3, h4, h5b]
        repeat refine sg ?_
        refine hK14 _ ?_
        clear hK14 K14
        refine AT_cond (g := none) rfl (fun hb47 => ?_) (fun hb47 => ?_)
        ·
         try simp [row_map, h1, h2, h3, h4, h5b] at hb47
         refine AT_skip ?_
         try simp only [nrm, reduceIte, Nat.reduceEqDiff]
         refine hK13 _ ?_
         refine AT_seq_k fun K15 hK15 => ?_
         refine AT_block ?_
         refine AT_seq_draw Pt.mixed (by kernel_rfl) fun K16 hK16 => ?_
         have hku : k < ul.length := by omega
         have hm := wtEs_mem (l := l) (e := l[k]) (by simp)
         have hda := List.drop_eq_getElem_cons hb47
         have hdb := List.drop_eq_getElem_cons hku
         simp [row_map, hku, h1, h2, h3, h4, h5b, hb47]
         repeat refine sg ?_
         refine RVdn_call (ih l[k] (by simp) ul[k] (by omega)) ?_
         simp [row_map, hku, h1, h2, h3, h4, h5b, hb47]
         repeat refine sg ?_
         refine hK16 _ ?_
         clear hK16 K16
         refine AT_cond (g := none) rfl (fun hb61 => ?_) (fun hb61 => ?_)
         ·
          try simp [row_map, h1, h2, h3, h4, h5b, hb47] at hb61
          refine AT_seq_region fun K17 hK17 => ?_
          simp [row_map, h1, h2, h3, h4, h5b, hb47, hb61]
          repeat refine sg ?_
          refine hK17 _ ?_
          clear hK17 K17
          refine AT_ret ?_
          simp [row_map, Tryd.f17]
          first
          | (simp [sameE, show (kd == kf) = false by simpa using h1]; done)
          | (simp [sameE, h2]; done)
          | (simp [sameE, h3]; done)
          | (simp [sameE, h4]; done)
          | (simp [sameE, sameEs_len (show l.length ≠ ul.length by omega)]; done)
          | (have he : sameE (.mk kd n t ta l p) (.mk kf m u ua ul q) = sameEs l ul := by simp [sameE, show (kd == kf) = true by simpa using h1, h2, h3, h4]
             rw [he, hc, hda, hdb, sameEs_cons]; simp [hb61]; done)
          | (have he : sameE (.mk kd n t ta l p) (.mk kf m u ua ul q) = sameEs l ul := by simp [sameE, show (kd == kf) = true by simpa using h1, h2, h3, h4]
             rw [he, hc, List.drop_eq_nil_of_le hb47, List.drop_eq_nil_of_le (show ul.length ≤ k by omega)]; simp [sameEs]; done)
         ·
          try simp [row_map, h1, h2, h3, h4, h5b, hb47] at hb61
          refine AT_skip ?_
          try simp only [nrm, reduceIte, Nat.reduceEqDiff]
          refine hK15 _ ?_
          refine AT_region_q fun K18 hK18 => ?_
          simp [row_map, h1, h2, h3, h4, h5b, hb47, hb61]
          repeat refine sg ?_
          refine hK18 _ ?_
          clear hK18 K18
          try simp only [nrm, reduceIte, Nat.reduceEqDiff]
          refine hK12 _ (by first | rfl | simp) (l.length - (k+1)) (by omega) ?_
          refine ⟨k+1, by omega, ?_, by omega, by simp⟩
          rw [hc, hda, hdb, sameEs_cons]; simp [hb61]
        ·
         try simp [row_map, h1, h2, h3, h4, h5b] at hb47
         refine AT_exit ?_
         try simp only [nrm, reduceIte, Nat.reduceEqDiff]
         refine hK10 _ ?_
         refine AT_seq_region fun K19 hK19 => ?_
         simp [row_map, h1, h2, h3, h4, h5b, hb47]
         repeat refine sg ?_
         refine hK19 _ ?_
         clear hK19 K19
         refine AT_ret ?_
         simp [row_map, Tryd.f17]
         first
         | (simp [sameE, show (kd == kf) = false by simpa using h1]; done)
         | (simp [sameE, h2]; done)
         | (simp [sameE, h3]; done)
         | (simp [sameE, h4]; done)
         | (simp [sameE, sameEs_len (show l.length ≠ ul.length by omega)]; done)
         | (have he : sameE (.mk kd n t ta l p) (.mk kf m u ua ul q) = sameEs l ul := by simp [sameE, show (kd == kf) = true by simpa using h1, h2, h3, h4]
            rw [he, hc, hda, hdb, sameEs_cons]; simp [hb61]; done)
         | (have he : sameE (.mk kd n t ta l p) (.mk kf m u ua ul q) = sameEs l ul := by simp [sameE, show (kd == kf) = true by simpa using h1, h2, h3, h4]
            rw [he, hc, List.drop_eq_nil_of_le hb47, List.drop_eq_nil_of_le (show ul.length ≤ k by omega)]; simp [sameEs]; done)
     ·
      have h5b : ((l.length : Int) != ul.length) = true := by simpa using h5
      refine AT_seq_region fun K20 hK20 => ?_
      simp [row_map, h1, h2, h3, h4, h5b]
      repeat refine sg ?_
      try (
       refine RVn_call (c_ref04x_Same g rnd t u (by omega)) ?_
       simp [row_map, h1, h2, h3, h4, h5b]
       repeat refine sg ?_)
      try (
       refine RVn_call (c_ref05x_sameTypes g rnd ta ua (by omega)) ?_
       simp [row_map, h1, h2, h3, h4, h5b]
       repeat refine sg ?_)
      refine hK20 _ ?_
      clear hK20 K20
      refine AT_cond (b := true) (g := none) (by simp [h1, h2, h3, h4, h5b]) (fun hb => ?_) (fun hb => ?_)
      ·
       clear hb
       refine AT_seq_region fun K21 hK21 => ?_
       simp [row_map, h1, h2, h3, h4, h5b]
       repeat refine sg ?_
       refine hK21 _ ?_
       clear hK21 K21
       refine AT_ret ?_
       simp [row_map, Tryd.f17]
       first
       | (simp [sameE, show (kd == kf) = false by simpa using h1]; done)
       | (simp [sameE, h2]; done)
       | (simp [sameE, h3]; done)
       | (simp [sameE, h4]; done)
       | (simp [sameE, sameEs_len (show l.length ≠ ul.length by omega)]; done)
       | (have he : sameE (.mk kd n t ta l p) (.mk kf m u ua ul q) = sameEs l ul := by simp [sameE, show (kd == kf) = true by simpa using h1, h2, h3, h4]
          rw [he, hc, hda, hdb, sameEs_cons]; simp [hb61]; done)
       | (have he : sameE (.mk kd n t ta l p) (.mk kf m u ua ul q) = sameEs l ul := by simp [sameE, show (kd == kf) = true by simpa using h1, h2, h3, h4]
          rw [he, hc, List.drop_eq_nil_of_le hb47, List.drop_eq_nil_of_le (show ul.length ≤ k by omega)]; simp [sameEs]; done)
      ·
       cases hb
 ·
  refine AT_seq_region fun K22 hK22 => ?_
  simp [row_map, h1]
  repeat refine sg ?_
  try (
   refine RVn_call (c_ref04x_Same g rnd t u (by omega)) ?_
   simp [row_map, h1]
   repeat refine sg ?_)
  try (
   refine RVn_call (c_ref05x_sameTypes g rnd ta ua (by omega)) ?_
   simp [row_map, h1]
   repeat refine sg ?_)
  refine hK22 _ ?_
  clear hK22 K22
  refine AT_cond (b := true) (g := none) (by simp [h1]) (fun hb => ?_) (fun hb => ?_)
  ·
   clear hb
   refine AT_seq_region fun K23 hK23 => ?_
   simp [row_map, h1]
   repeat refine sg ?_
   refine hK23 _ ?_
   clear hK23 K23
   refine AT_ret ?_
   simp [row_map, Tryd.f17]
   first
   | (simp [sameE, show (kd == kf) = false by simpa using h1]; done)
   | (simp [sameE, h2]; done)
   | (simp [sameE, h3]; done)
   | (simp [sameE, h4]; done)
   | (simp [sameE, sameEs_len (show l.length ≠ ul.length by omega)]; done)
   | (have he : sameE (.mk kd n t ta l p) (.mk kf m u ua ul q) = sameEs l ul := by simp [sameE, show (kd == kf) = true by simpa using h1, h2, h3, h4]
      rw [he, hc, hda, hdb, sameEs_cons]; simp [hb61]; done)
   | (have he : sameE (.mk kd n t ta l p) (.mk kf m u ua ul q) = sameEs l ul := by simp [sameE, show (kd == kf) = true by simpa using h1, h2, h3, h4]
      rw [he, hc, List.drop_eq_nil_of_le hb47, List.drop_eq_nil_of_le (show ul.length ≤ k by omega)]; simp [sameEs]; done)
  ·
   cases hb

end Go.Proofs.YtpjkdaechknogaaDoor
end

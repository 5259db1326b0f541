import Derived.Test.YtpjkdaechknogaaDoorPt
import Derived.Test.YtpjkdaechknogaaDoorPvPa
import Derived.Test.YtpjkdaechknogaaDoorPvY
import Derived.Test.YtpjkdaechknogaaDoorXRdG
import Derived.Test.YtpjkdaechknogaaDoorXRdE
import Derived.Test.YtpjkdaechknogaaDoorXNaC
import Derived.Test.YtpjkdaechknogaaDoorXLxE
import Derived.Test.YtpjkdaechknogaaDoorXTyD
import Derived.Test.YtpjkdaechknogaaDoorXTyO
import Derived.Test.YtpjkdaechknogaaDoorXTyQ
import Derived.Test.YtpjkdaechknogaaDoorXNaB
import Derived.Test.YtpjkdaechknogaaDoorPvRc
section
/- Contracts: whole texts, errors, what every law of reading asks first. -/
set_option linter.all false
set_option maxHeartbeats 1000000
set_option maxRecDepth 10000
namespace Go.Proofs.YtpjkdaechknogaaDoor
open Go Go.Pv
variable (g : Nat → Option (List AV)) (rnd : Bool)

theorem c_ref07x_Begin (s : Str) (hs : s.length ≤ 1000000) : Valid Tryd.prog (G0 g false) 57 [.str s] (match lexT s with | (none, m) => .tup [.agg (encP [] ⟨0, false⟩), .int .i64 1, .int .i64 m] | (some l, _) => .tup [.agg (encP l ⟨0, false⟩), .int .i64 0, .int .i64 0]) := by

 refine valid_of [] Tryd.func57 rfl (by kernel_rfl) ?_
 refine AT_seq_region fun K1 hK1 => ?_
 simp [encP, lexR, Tryd.f57]
 repeat refine sg ?_
 refine hK1 _ ?_
 clear hK1 K1
 rcases hx : lexT s with ⟨_ | l, m⟩
 ·
  refine AT_seq_region fun K2 hK2 => ?_
  simp [encP, lexR]
  repeat refine sg ?_
  refine RVn_call ((by have h := c_ref03x_Tokens g false s (by omega); rw [hx] at h; exact h)) ?_
  simp [encP, lexR]
  repeat refine sg ?_
  refine hK2 _ ?_
  clear hK2 K2
  refine AT_seq_k fun K3 hK3 => ?_
  refine AT_seq_region fun K4 hK4 => ?_
  simp [encP, lexR]
  repeat refine sg ?_
  refine hK4 _ ?_
  clear hK4 K4
  refine AT_cond (b := true) (g := none) (by simp) (fun hb => ?_) (fun hb => ?_)
  ·
   clear hb
   refine AT_seq_draw_m false [(2, 2), (5, 5), (12, 5)] Pt.mixed (by kernel_rfl) ⟨by simp [Im, okP, AS.get, look, TV.strip], fun h => by cases h⟩ fun K5 hK5 => ?_
   simp [encP, lexR]
   repeat refine sg ?_
   refine hK5 _ ?_
   clear hK5 K5
   refine AT_ret ?_
   simp [encP, lexR, Tryd.f57]
  ·
   cases hb
 ·
  refine AT_seq_region fun K6 hK6 => ?_
  simp [encP, lexR]
  repeat refine sg ?_
  refine RVn_call ((by have h := c_ref03x_Tokens g false s (by omega); rw [hx] at h; exact h)) ?_
  simp [encP, lexR]
  repeat refine sg ?_
  refine hK6 _ ?_
  clear hK6 K6
  refine AT_seq_k fun K7 hK7 => ?_
  refine AT_seq_region fun K8 hK8 => ?_
  simp [encP, lexR]
  repeat refine sg ?_
  refine hK8 _ ?_
  clear hK8 K8
  refine AT_cond (b := false) (g := none) (by simp) (fun hb => ?_) (fun hb => ?_)
  ·
   cases hb
  ·
   clear hb
   refine AT_skip ?_
   try simp only [nrm, reduceIte, Nat.reduceEqDiff]
   refine hK7 _ ?_
   refine AT_seq_region fun K9 hK9 => ?_
   simp [encP, lexR]
   repeat refine sg ?_
   refine hK9 _ ?_
   clear hK9 K9
   refine AT_ret ?_
   simp [encP, lexR, Tryd.f57]

theorem c_ref07x_WholeType (s : Str) (hs : s.length ≤ 1000000) : Valid Tryd.prog (G0 g false) 31 [.str s] (.tup [.agg (encTy (wholeR ty0 rtR s).1), .int .i64 (wholeR ty0 rtR s).2.1, .int .i64 (wholeR ty0 rtR s).2.2]) := by

 refine valid_of [] Tryd.func31 rfl (by kernel_rfl) ?_
 refine AT_seq_region fun K1 hK1 => ?_
 simp [Tryd.f31]
 repeat refine sg ?_
 refine hK1 _ ?_
 clear hK1 K1
 rcases hx : lexT s with ⟨_ | l, m⟩
 ·
  refine AT_seq_region fun K2 hK2 => ?_
  simp [encP]
  repeat refine sg ?_
  refine RVn_call ((by have h := c_ref07x_Begin g s hs; rw [hx] at h; exact h)) ?_
  simp [encP]
  repeat refine sg ?_
  refine hK2 _ ?_
  clear hK2 K2
  refine AT_seq_k fun K3 hK3 => ?_
  refine AT_seq_region fun K4 hK4 => ?_
  simp
  repeat refine sg ?_
  refine hK4 _ ?_
  clear hK4 K4
  refine AT_cond (b := true) (g := none) (by simp) (fun hb => ?_) (fun hb => ?_)
  ·
   clear hb
   refine AT_seq_region fun K5 hK5 => ?_
   simp
   repeat refine sg ?_
   refine hK5 _ ?_
   clear hK5 K5
   refine AT_ret ?_
   simp [Tryd.f31]
   all_goals first | (simp [wholeR, hx, enc_ty0]; done) | (simp [wholeR, hx, ← hp, h0, enc_ty0]; done)
  ·
   cases hb
 ·
  obtain ⟨hsl, hll, hlt⟩ := lexT_bounds hx
  have hE := lexT_ends hx
  obtain ⟨p, hp⟩ : ∃ p, p = rtR l := ⟨_, rfl⟩
  have hpl : p.2.k < l.length := by rw [hp]; exact (typeR_lt hE _ ⟨0, false⟩ hE.1).2
  refine AT_seq_region fun K6 hK6 => ?_
  simp [encP]
  repeat refine sg ?_
  refine RVn_call ((by have h := c_ref07x_Begin g s hs; rw [hx] at h; exact h)) ?_
  simp [encP]
  repeat refine sg ?_
  refine hK6 _ ?_
  clear hK6 K6
  refine AT_seq_k fun K7 hK7 => ?_
  refine AT_seq_region fun K8 hK8 => ?_
  simp
  repeat refine sg ?_
  refine hK8 _ ?_
  clear hK8 K8
  refine AT_cond (b := false) (g := none) (by simp) (fun hb => ?_) (fun hb => ?_)
  ·
   cases hb
  ·
   clear hb
   refine AT_skip ?_
   try simp only [nrm, reduceIte, Nat.reduceEqDiff]
   refine hK7 _ ?_
   refine AT_seq_region fun K9 hK9 => ?_
   simp [encP]
   repeat refine sg ?_
   refine RVn_call ((by have h := c_ref07x_Type g l hE (by omega) (fun t ht => by have := hlt t ht; omega) (l.length + 1) ⟨0, false⟩ (by simp) hE.1; rw [show typeR l (l.length + 1) ⟨0, false⟩ = p from hp.symm] at h; simp only [encP] at h; exact h)) ?_
   simp [encP]
   repeat refine sg ?_
   refine hK9 _ ?_
   clear hK9 K9
   refine AT_seq_region fun K10 hK10 => ?_
   simp
   repeat refine sg ?_
   refine RVn_call ((by have h := c_ref07x_Finish g l (by omega) p.2 hpl; simp only [encP] at h; exact h)) ?_
   simp
   repeat refine sg ?_
   refine hK10 _ ?_
   clear hK10 K10
   refine AT_seq_k fun K11 hK11 => ?_
   by_cases h0 : (finR l p.2).1 = 0
   ·
    refine AT_seq_region fun K12 hK12 => ?_
    simp [h0]
    repeat refine sg ?_
    refine hK12 _ ?_
    clear hK12 K12
    refine AT_cond (b := false) (g := none) (by simp [h0]) (fun hb => ?_) (fun hb => ?_)
    ·
     cases hb
    ·
     clear hb
     refine AT_skip ?_
     try simp only [nrm, reduceIte, Nat.reduceEqDiff]
     refine hK11 _ ?_
     refine AT_seq_region fun K13 hK13 => ?_
     simp [h0]
     repeat refine sg ?_
     refine hK13 _ ?_
     clear hK13 K13
     refine AT_ret ?_
     simp [Tryd.f31]
     all_goals first | (simp [wholeR, hx, enc_ty0]; done) | (simp [wholeR, hx, ← hp, h0, enc_ty0]; done)
   ·
    refine AT_seq_region fun K14 hK14 => ?_
    simp [h0]
    repeat refine sg ?_
    refine hK14 _ ?_
    clear hK14 K14
    refine AT_cond (b := true) (g := none) (by simp [h0]) (fun hb => ?_) (fun hb => ?_)
    ·
     clear hb
     refine AT_seq_region fun K15 hK15 => ?_
     simp [h0]
     repeat refine sg ?_
     refine hK15 _ ?_
     clear hK15 K15
     refine AT_ret ?_
     simp [Tryd.f31]
     all_goals first | (simp [wholeR, hx, enc_ty0]; done) | (simp [wholeR, hx, ← hp, h0, enc_ty0]; done)
    ·
     cases hb

theorem c_law07x_told_0 (at_ : Int) : Valid Tryd.prog (G0 g false) 29 [.nilIface, .int .i64 0, .int .i64 at_] (.bool true) := by

 refine valid_of [] Tryd.func29 rfl (by kernel_rfl) ?_
 refine AT_seq_region fun K1 hK1 => ?_
 simp [Tryd.f29]
 repeat refine sg ?_
 refine hK1 _ ?_
 clear hK1 K1
 refine AT_seq_k fun K2 hK2 => ?_
 refine AT_seq_region fun K3 hK3 => ?_
 simp
 repeat refine sg ?_
 refine hK3 _ ?_
 clear hK3 K3
 refine AT_cond (b := true) (g := none) (by simp) (fun hb => ?_) (fun hb => ?_)
 ·
  clear hb
  refine AT_seq_region fun K4 hK4 => ?_
  simp
  repeat refine sg ?_
  refine hK4 _ ?_
  clear hK4 K4
  refine AT_ret ?_
  simp [Tryd.f29]
 ·
  cases hb

theorem c_law07x_told (k n : Int) (hk : k ≠ 0) (hty : g 1 = some errTy) : Valid Tryd.prog (G0 g false) 29 [.iface 110 (.agg [.int .i64 k, .int .i64 n]), .int .i64 k, .int .i64 n] (.bool true) := by
 have hk2 : (k == 0) = false := by simpa using hk
 refine valid_of [] Tryd.func29 rfl (by kernel_rfl) ?_
 refine AT_seq_region fun K1 hK1 => ?_
 simp [hk2, Tryd.f29]
 repeat refine sg ?_
 refine hK1 _ ?_
 clear hK1 K1
 refine AT_seq_k fun K2 hK2 => ?_
 refine AT_seq_region fun K3 hK3 => ?_
 simp [hk2]
 repeat refine sg ?_
 refine hK3 _ ?_
 clear hK3 K3
 refine AT_cond (b := false) (g := none) (by simp [hk2]) (fun hb => ?_) (fun hb => ?_)
 ·
  cases hb
 ·
  clear hb
  refine AT_skip ?_
  try simp only [nrm, reduceIte, Nat.reduceEqDiff]
  refine hK2 _ ?_
  refine AT_seq_region fun K4 hK4 => ?_
  simp [hk2]
  repeat refine sg ?_
  refine RVn_call (fault_Code_f g false hty _ _) ?_
  simp [hk2]
  repeat refine sg ?_
  refine hK4 _ ?_
  clear hK4 K4
  refine AT_seq_region fun K5 hK5 => ?_
  simp [hk2]
  repeat refine sg ?_
  refine RVn_call (fault_At_f g false hty _ _) ?_
  simp [hk2]
  repeat refine sg ?_
  refine hK5 _ ?_
  clear hK5 K5
  refine AT_seq_region fun K6 hK6 => ?_
  simp [hk2]
  repeat refine sg ?_
  refine hK6 _ ?_
  clear hK6 K6
  refine AT_ret ?_
  simp [hk2, Tryd.f29]

def rdX : Exp := .mk 5 [] (.mk [84] [] 8) [] [.mk 2 [102] ty0 [] [.mk 1 [120] ty0 [] [] 0, .mk 1 [121] ty0 [] [] 4] 2] 7
def rdM : Ty := .mk [77, 97, 112] [.mk [97] [] 4, .mk [76, 105, 115, 116] [.mk [98] [] 12] 7] 0
def rdK : List Tk := [(2, [44], 1), (1, [98], 3), (3, [], 4)]
def rdL : List Tk := (1, [97], 0) :: rdK
def rdN : List Tk := [(1, [98], 3), (3, [], 4)]
theorem rd1 : wholeC 110 ex0 rdE [120, 46, 102, 40, 121, 41, 46, 40, 84, 41] = (rdX, .nilIface) := by kernel_rfl
theorem rd2 : wholeC 110 ty0 rdT [77, 97, 112, 91, 97, 44, 32, 76, 105, 115, 116, 91, 98, 93, 93] = (rdM, .nilIface) := by kernel_rfl
theorem rd3 : wholeC 110 ex0 rdE [120, 46] = (ex0, .iface 110 (.agg [.int .i64 2, .int .i64 2])) := by kernel_rfl
theorem rd4 : lexT [97, 44, 32, 98] = (some rdL, 0) := by decide
theorem rd5 : (⟨rdL, none⟩ : Cur).name = ⟨rdK, none⟩ := by kernel_rfl
theorem rd6 : (⟨rdL, none⟩ : Cur).nm = [97] ∧ (⟨rdL, none⟩ : Cur).at_ = 0 := by decide
theorem rd7 : (⟨rdK, none⟩ : Cur).next [44] = true ∧ (⟨rdN, none⟩ : Cur).next [98] = true ∧ (⟨rdN, none⟩ : Cur).next [120] = false := by decide
theorem rd8 : (⟨rdK, none⟩ : Cur).take [44] = ⟨rdN, none⟩ := by kernel_rfl
theorem rd9 : (⟨rdN, none⟩ : Cur).take [120] = ⟨rdN, none⟩ := by kernel_rfl
theorem rdp : ptrT Tryd.prog 52 = true := by kernel_rfl

theorem c_law07x_awake (hres : g 0 = some reservedA) (hty : g 1 = some errTy) : Valid Tryd.prog (G0 g false) 7 [] (.bool true) := by

 refine valid_of [] Tryd.func7 rfl (by kernel_rfl) ?_
 refine AT_seq_region fun K1 hK1 => ?_
 simp [lexV, rdp, Tryd.f7]
 repeat refine sg ?_
 refine hK1 _ ?_
 clear hK1 K1
 refine AT_seq_region fun K2 hK2 => ?_
 simp [lexV, rdp]
 repeat refine sg ?_
 refine RVn_call ((by have h := c_read_Expr g [120, 46, 102, 40, 121, 41, 46, 40, 84, 41] (by decide) hres; rw [rd1] at h; exact h)) ?_
 simp [lexV, rdp]
 repeat refine sg ?_
 refine hK2 _ ?_
 clear hK2 K2
 refine AT_seq_region fun K3 hK3 => ?_
 simp [lexV, rdp]
 repeat refine sg ?_
 refine RVn_call ((by have h := c_read_Type g [77, 97, 112, 91, 97, 44, 32, 76, 105, 115, 116, 91, 98, 93, 93] (by decide) hres; rw [rd2] at h; exact h)) ?_
 simp [lexV, rdp]
 repeat refine sg ?_
 refine hK3 _ ?_
 clear hK3 K3
 refine AT_seq_region fun K4 hK4 => ?_
 simp [lexV, rdp, enc_ex0]
 repeat refine sg ?_
 refine RVn_call ((by have h := c_read_Expr g [120, 46] (by decide) hres; rw [rd3] at h; exact h)) ?_
 simp [lexV, rdp, enc_ex0]
 repeat refine sg ?_
 refine hK4 _ ?_
 clear hK4 K4
 refine AT_seq_region fun K5 hK5 => ?_
 simp [lexV, rdp]
 repeat refine sg ?_
 refine RVn_call ((by have h := c_lex_Tokens g false [97, 44, 32, 98] (by decide); rw [rd4] at h; exact h)) ?_
 simp [lexV, rdp]
 repeat refine sg ?_
 refine hK5 _ ?_
 clear hK5 K5
 refine AT_seq_region fun K6 hK6 => ?_
 simp [lexV, rdp]
 repeat refine sg ?_
 refine RVn_callN (c_read_New g rdL) fun b => ?_
 simp [lexV, rdp]
 repeat refine sg ?_
 refine hK6 _ ?_
 clear hK6 K6
 refine AT_seq_k fun K7 hK7 => ?_
 refine AT_seq_region fun K8 hK8 => ?_
 simp [lexV, rdp]
 repeat refine sg ?_
 refine hK8 _ ?_
 clear hK8 K8
 refine AT_cond (b := false) (g := none) (by simp) (fun hb => ?_) (fun hb => ?_)
 ·
  cases hb
 ·
  clear hb
  refine AT_skip ?_
  try simp only [nrm, reduceIte, Nat.reduceEqDiff]
  refine hK7 _ ?_
  refine AT_seq_region fun K9 hK9 => ?_
  simp [lexV, rdp]
  repeat refine sg ?_
  refine RVn_callC ((by have h := c_read_Cursor_Name g b ⟨rdL, none⟩ (by decide) (fun s hs => c_name_Is g false s (by omega) hres) (by decide); rw [rd5, rd6.1, rd6.2] at h; exact h)) rfl ?_
  simp [lexV, rdp]
  repeat refine sg ?_
  refine hK9 _ ?_
  clear hK9 K9
  refine AT_seq_region fun K10 hK10 => ?_
  simp [lexV, rdp, rdX, encE_mk]
  repeat refine sg ?_
  refine RVn_call ((by have h := c_ref04x_Text g false rdM (by decide); exact h : Valid Tryd.prog (G0 g false) 13 [.agg (encTy rdM)] (.str [77, 97, 112, 91, 97, 44, 32, 76, 105, 115, 116, 91, 98, 93, 93]))) ?_
  simp [lexV, rdp, rdX, encE_mk]
  repeat refine sg ?_
  refine RVn_call (c_law07x_told g 2 2 (by decide) hty) ?_
  simp [lexV, rdp, rdX, encE_mk]
  repeat refine sg ?_
  refine RVn_callC ((by have h := c_read_Cursor_Take g [44] b ⟨rdK, none⟩ (by decide); rw [rd7.1, rd8] at h; exact h)) rfl ?_
  simp [lexV, rdp, rdX, encE_mk]
  repeat refine sg ?_
  refine RVn_callC ((by have h := c_read_Cursor_Next g [98] b ⟨rdN, none⟩ (by decide); rw [rd7.2.1] at h; exact h)) rfl ?_
  simp [lexV, rdp, rdX, encE_mk]
  repeat refine sg ?_
  refine RVn_callC ((by have h := c_read_Cursor_Take g [120] b ⟨rdN, none⟩ (by decide); rw [rd7.2.2, rd9] at h; exact h)) rfl ?_
  simp [lexV, rdp, rdX, encE_mk]
  repeat refine sg ?_
  refine hK10 _ ?_
  clear hK10 K10
  refine AT_ret ?_
  simp [lexV, rdp, Tryd.f7]

theorem toldA {g : Nat → Option (List AV)} (e : AV) (k n : Int) (h : (k = 0 ∧ e = .nilIface) ∨ (k ≠ 0 ∧ e = .iface 110 (.agg [.int .i64 k, .int .i64 n]))) (hty : g 1 = some errTy) : Valid Tryd.prog (G0 g false) 29 [e, .int .i64 k, .int .i64 n] (.bool true) := by
 rcases h with ⟨rfl, rfl⟩ | ⟨hk, rfl⟩
 · exact c_law07x_told_0 g n
 · exact c_law07x_told g k n hk hty

end Go.Proofs.YtpjkdaechknogaaDoor
end

section
/- The law: types are read as in the reference. -/
set_option linter.all false
set_option maxHeartbeats 1000000
set_option maxRecDepth 10000
namespace Go.Proofs.YtpjkdaechknogaaDoor
open Go Go.Pv
variable (g : Nat → Option (List AV)) (rnd : Bool)

theorem c_law07x_ReadTypes (s : Str) (hs : s.length ≤ 140737488355328) (hres : g 0 = some reservedA) (hty : g 1 = some errTy) : Valid Tryd.prog (G0 g false) 6 [.str s] (.bool true) := by

 refine valid_of [] Tryd.func6 rfl (by kernel_rfl) ?_
 refine AT_seq_region fun K1 hK1 => ?_
 simp [Tryd.f6]
 repeat refine sg ?_
 refine hK1 _ ?_
 clear hK1 K1
 refine AT_seq_k fun K2 hK2 => ?_
 by_cases hbig : (2000 : Int) < s.length
 ·
  refine AT_seq_region fun K3 hK3 => ?_
  simp [hbig]
  repeat refine sg ?_
  refine RVn_call (c_law07x_awake g hres hty) ?_
  simp [hbig]
  repeat refine sg ?_
  refine hK3 _ ?_
  clear hK3 K3
  refine AT_cond (b := true) (g := none) (by simp [hbig]) (fun hb => ?_) (fun hb => ?_)
  ·
   clear hb
   refine AT_seq_region fun K4 hK4 => ?_
   simp [hbig]
   repeat refine sg ?_
   refine RVn_call (c_law07x_awake g hres hty) ?_
   simp [hbig]
   repeat refine sg ?_
   refine hK4 _ ?_
   clear hK4 K4
   refine AT_ret ?_
   simp [Tryd.f6]
  ·
   cases hb
 ·
  have hsl : s.length ≤ 2000 := by omega
  refine AT_seq_region fun K5 hK5 => ?_
  simp [hbig]
  repeat refine sg ?_
  refine RVn_call (c_law07x_awake g hres hty) ?_
  simp [hbig]
  repeat refine sg ?_
  refine hK5 _ ?_
  clear hK5 K5
  refine AT_cond (b := false) (g := none) (by simp [hbig]) (fun hb => ?_) (fun hb => ?_)
  ·
   cases hb
  ·
   clear hb
   refine AT_skip ?_
   try simp only [nrm, reduceIte, Nat.reduceEqDiff]
   refine hK2 _ ?_
   refine AT_seq_region fun K6 hK6 => ?_
   obtain ⟨h1, h2⟩ := whole_same 110 ty0 rdT rtR s (fun l hE => type_same hE)
   obtain ⟨t, k, n, hw⟩ : ∃ t k n, wholeR ty0 rtR s = (t, k, n) := ⟨_, _, _, rfl⟩
   rw [hw] at h1 h2
   have htd := toldA (g := g) (wholeC 110 ty0 rdT s).2 k n (h2.elim (fun h => .inl ⟨h.1, h.2.1⟩) (fun h => .inr ⟨h.2.1, h.2.2⟩)) hty
   have h1b : t = (wholeC 110 ty0 rdT s).1 := h1.symm
   have hsz : wt t ≤ 5000 := by
     rcases h2 with ⟨-, -, l, m, hx, h5, -⟩ | ⟨h3, -⟩
     · rw [h1b, h5]; have := rdT_sz hx; omega
     · rw [show t = ty0 from h3]; simp [ty0, wt, wts]
   have hrt : k = 0 → rightT t = true := fun hk => by
     rcases h2 with ⟨-, -, l, m, hx, h5, h6⟩ | ⟨-, h3, -⟩
     · rw [h1b, h5]; exact typeC_ok _ _ (Nat.lt_succ_self _) h6
     · exact absurd hk h3
   simp [hbig]
   repeat refine sg ?_
   refine RVn_call ((by have h := c_read_Type g s (by omega) hres; rw [h1] at h; exact h)) ?_
   simp [hbig]
   repeat refine sg ?_
   refine hK6 _ ?_
   clear hK6 K6
   refine AT_seq_region fun K7 hK7 => ?_
   simp [hbig]
   repeat refine sg ?_
   refine RVn_call ((by have h := c_ref07x_WholeType g s (by omega); rw [hw] at h; exact h)) ?_
   simp [hbig]
   repeat refine sg ?_
   refine hK7 _ ?_
   clear hK7 K7
   refine AT_seq_k fun K8 hK8 => ?_
   refine AT_seq_region fun K9 hK9 => ?_
   simp [hbig]
   repeat refine sg ?_
   refine RVn_call ((eqT_refl t ▸ c_ref04x_Equal g false t t (by omega) : Valid Tryd.prog (G0 g false) 32 [.agg (encTy t), .agg (encTy t)] (.bool true))) ?_
   simp [hbig]
   repeat refine sg ?_
   refine RVn_call (htd) ?_
   simp [hbig]
   repeat refine sg ?_
   refine hK9 _ ?_
   clear hK9 K9
   refine AT_cond (b := false) (g := none) (by simp [hbig]) (fun hb => ?_) (fun hb => ?_)
   ·
    cases hb
   ·
    clear hb
    refine AT_skip ?_
    try simp only [nrm, reduceIte, Nat.reduceEqDiff]
    refine hK8 _ ?_
    by_cases hk : k = 0
    ·
     have hr := hrt hk
     have hk2 : (k != 0) = false := by simp [hk]
     refine AT_seq_region fun K10 hK10 => ?_
     simp [hbig, hk2, hr]
     repeat refine sg ?_
     try (
      refine RVn_call (c_ref04x_Right g false t (by omega)) ?_
      simp [hbig, hk2, hr]
      repeat refine sg ?_)
     try (
      refine RVn_call (c_types_Right g false t (by omega) hres) ?_
      simp [hbig, hk2, hr]
      repeat refine sg ?_)
     refine hK10 _ ?_
     clear hK10 K10
     refine AT_ret ?_
     simp [Tryd.f6]
    ·
     have hk2 : (k != 0) = true := by simp [hk]
     refine AT_seq_region fun K11 hK11 => ?_
     simp [hbig, hk2]
     repeat refine sg ?_
     try (
      refine RVn_call (c_ref04x_Right g false t (by omega)) ?_
      simp [hbig, hk2]
      repeat refine sg ?_)
     try (
      refine RVn_call (c_types_Right g false t (by omega) hres) ?_
      simp [hbig, hk2]
      repeat refine sg ?_)
     refine hK11 _ ?_
     clear hK11 K11
     refine AT_ret ?_
     simp [Tryd.f6]

end Go.Proofs.YtpjkdaechknogaaDoor
end

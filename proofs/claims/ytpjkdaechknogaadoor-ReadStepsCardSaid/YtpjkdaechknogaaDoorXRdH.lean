/- Contracts: whole texts, errors, what every law of reading asks first. -/
import Derived.Test.YtpjkdaechknogaaDoorPt
import Derived.Test.YtpjkdaechknogaaDoorPvPb
import Derived.Test.YtpjkdaechknogaaDoorPvY
import Derived.Test.YtpjkdaechknogaaDoorXRdG
import Derived.Test.YtpjkdaechknogaaDoorXRdE
import Derived.Test.YtpjkdaechknogaaDoorXNaC
import Derived.Test.YtpjkdaechknogaaDoorXLxE
import Derived.Test.YtpjkdaechknogaaDoorXRdE
import Derived.Test.YtpjkdaechknogaaDoorXTyD
import Derived.Test.YtpjkdaechknogaaDoorXTyO
import Derived.Test.YtpjkdaechknogaaDoorXTyQ
import Derived.Test.YtpjkdaechknogaaDoorXNaB
import Derived.Test.YtpjkdaechknogaaDoorPvRc
set_option linter.all false
set_option maxHeartbeats 1000000
set_option maxRecDepth 10000
namespace Go.Proofs.YtpjkdaechknogaaDoor
open Go Go.Pv
variable (g : Nat → Option (List AV)) (rnd : Bool)

theorem c_law07x_told_0 (at_ : Int) : Valid Tryd.prog (G0 g false) 29 [.nilIface, .int .i64 0, .int .i64 at_] (.bool true) := by

 refine valid_of [] Tryd.func29 rfl (by kernel_rfl) ?_
 refine AT_seq_region fun K1 hK1 => ?_
 simp [Tryd.f29]
 repeat refine sg ?_
 refine hK1 _ ?_
 clear hK1 K1
 refine AT_seq_k fun K2 hK2 => ?_
 refine AT_seq_region fun K3 hK3 => ?_
 simp
 repeat refine sg ?_
 refine hK3 _ ?_
 clear hK3 K3
 refine AT_cond (b := true) (g := none) (by simp) (fun hb => ?_) (fun hb => ?_)
 ·
  clear hb
  refine AT_seq_region fun K4 hK4 => ?_
  simp
  repeat refine sg ?_
  refine hK4 _ ?_
  clear hK4 K4
  refine AT_ret ?_
  simp [Tryd.f29]
 ·
  cases hb

theorem c_law07x_told (k n : Int) (hk : k ≠ 0) (hty : g 1 = some errTy) : Valid Tryd.prog (G0 g false) 29 [.iface 110 (.agg [.int .i64 k, .int .i64 n]), .int .i64 k, .int .i64 n] (.bool true) := by
 have hk2 : (k == 0) = false := by simpa using hk
 refine valid_of [] Tryd.func29 rfl (by kernel_rfl) ?_
 refine AT_seq_region fun K1 hK1 => ?_
 simp [hk2, Tryd.f29]
 repeat refine sg ?_
 refine hK1 _ ?_
 clear hK1 K1
 refine AT_seq_k fun K2 hK2 => ?_
 refine AT_seq_region fun K3 hK3 => ?_
 simp [hk2]
 repeat refine sg ?_
 refine hK3 _ ?_
 clear hK3 K3
 refine AT_cond (b := false) (g := none) (by simp [hk2]) (fun hb => ?_) (fun hb => ?_)
 ·
  cases hb
 ·
  clear hb
  refine AT_skip ?_
  try simp only [nrm, reduceIte, Nat.reduceEqDiff]
  refine hK2 _ ?_
  refine AT_seq_region fun K4 hK4 => ?_
  simp [hk2]
  repeat refine sg ?_
  refine RVn_call (fault_Code_f g false hty _ _) ?_
  simp [hk2]
  repeat refine sg ?_
  refine hK4 _ ?_
  clear hK4 K4
  refine AT_seq_region fun K5 hK5 => ?_
  simp [hk2]
  repeat refine sg ?_
  refine RVn_call (fault_At_f g false hty _ _) ?_
  simp [hk2]
  repeat refine sg ?_
  refine hK5 _ ?_
  clear hK5 K5
  refine AT_seq_region fun K6 hK6 => ?_
  simp [hk2]
  repeat refine sg ?_
  refine hK6 _ ?_
  clear hK6 K6
  refine AT_ret ?_
  simp [hk2, Tryd.f29]

def rdX : Exp := .mk 5 [] (.mk [84] [] 8) [] [.mk 2 [102] ty0 [] [.mk 1 [120] ty0 [] [] 0, .mk 1 [121] ty0 [] [] 4] 2] 7
def rdM : Ty := .mk [77, 97, 112] [.mk [97] [] 4, .mk [76, 105, 115, 116] [.mk [98] [] 12] 7] 0
def rdK : List Tk := [(2, [44], 1), (1, [98], 3), (3, [], 4)]
def rdL : List Tk := (1, [97], 0) :: rdK
def rdN : List Tk := [(1, [98], 3), (3, [], 4)]
theorem rd1 : wholeC 110 ex0 rdE [120, 46, 102, 40, 121, 41, 46, 40, 84, 41] = (rdX, .nilIface) := by kernel_rfl
theorem rd2 : wholeC 110 ty0 rdT [77, 97, 112, 91, 97, 44, 32, 76, 105, 115, 116, 91, 98, 93, 93] = (rdM, .nilIface) := by kernel_rfl
theorem rd3 : wholeC 110 ex0 rdE [120, 46] = (ex0, .iface 110 (.agg [.int .i64 2, .int .i64 2])) := by kernel_rfl
theorem rd4 : lexT [97, 44, 32, 98] = (some rdL, 0) := by decide
theorem rd5 : (⟨rdL, none⟩ : Cur).name = ⟨rdK, none⟩ := by kernel_rfl
theorem rd6 : (⟨rdL, none⟩ : Cur).nm = [97] ∧ (⟨rdL, none⟩ : Cur).at_ = 0 := by decide
theorem rd7 : (⟨rdK, none⟩ : Cur).next [44] = true ∧ (⟨rdN, none⟩ : Cur).next [98] = true ∧ (⟨rdN, none⟩ : Cur).next [120] = false := by decide
theorem rd8 : (⟨rdK, none⟩ : Cur).take [44] = ⟨rdN, none⟩ := by kernel_rfl
theorem rd9 : (⟨rdN, none⟩ : Cur).take [120] = ⟨rdN, none⟩ := by kernel_rfl
theorem rdp : ptrT Tryd.prog 52 = true := by kernel_rfl

theorem c_law07x_awake (hres : g 0 = some reservedA) (hty : g 1 = some errTy) : Valid Tryd.prog (G0 g false) 7 [] (.bool true) := by

 refine valid_of [] Tryd.func7 rfl (by kernel_rfl) ?_
 refine AT_seq_region fun K1 hK1 => ?_
 simp [lexV, rdp, Tryd.f7]
 repeat refine sg ?_
 refine hK1 _ ?_
 clear hK1 K1
 refine AT_seq_region fun K2 hK2 => ?_
 simp [lexV, rdp]
 repeat refine sg ?_
 refine RVn_call ((by have h := c_read_Expr g [120, 46, 102, 40, 121, 41, 46, 40, 84, 41] (by decide) hres; rw [rd1] at h; exact h)) ?_
 simp [lexV, rdp]
 repeat refine sg ?_
 refine hK2 _ ?_
 clear hK2 K2
 refine AT_seq_region fun K3 hK3 => ?_
 simp [lexV, rdp]
 repeat refine sg ?_
 refine RVn_call ((by have h := c_read_Type g [77, 97, 112, 91, 97, 44, 32, 76, 105, 115, 116, 91, 98, 93, 93] (by decide) hres; rw [rd2] at h; exact h)) ?_
 simp [lexV, rdp]
 repeat refine sg ?_
 refine hK3 _ ?_
 clear hK3 K3
 refine AT_seq_region fun K4 hK4 => ?_
 simp [lexV, rdp, enc_ex0]
 repeat refine sg ?_
 refine RVn_call ((by have h := c_read_Expr g [120, 46] (by decide) hres; rw [rd3] at h; exact h)) ?_
 simp [lexV, rdp, enc_ex0]
 repeat refine sg ?_
 refine hK4 _ ?_
 clear hK4 K4
 refine AT_seq_region fun K5 hK5 => ?_
 simp [lexV, rdp]
 repeat refine sg ?_
 refine RVn_call ((by have h := c_lex_Tokens g false [97, 44, 32, 98] (by decide); rw [rd4] at h; exact h)) ?_
 simp [lexV, rdp]
 repeat refine sg ?_
 refine hK5 _ ?_
 clear hK5 K5
 refine AT_seq_region fun K6 hK6 => ?_
 simp [lexV, rdp]
 repeat refine sg ?_
 refine RVn_callN (c_read_New g rdL) fun b => ?_
 simp [lexV, rdp]
 repeat refine sg ?_
 refine hK6 _ ?_
 clear hK6 K6
 refine AT_seq_k fun K7 hK7 => ?_
 refine AT_seq_region fun K8 hK8 => ?_
 simp [lexV, rdp]
 repeat refine sg ?_
 refine hK8 _ ?_
 clear hK8 K8
 refine AT_cond (b := false) (g := none) (by simp) (fun hb => ?_) (fun hb => ?_)
 ·
  cases hb
 ·
  clear hb
  refine AT_skip ?_
  try simp only [nrm, reduceIte, Nat.reduceEqDiff]
  refine hK7 _ ?_
  refine AT_seq_region fun K9 hK9 => ?_
  simp [lexV, rdp]
  repeat refine sg ?_
  refine RVn_callC ((by have h := c_read_Cursor_Name g b ⟨rdL, none⟩ (by decide) (fun s hs => c_name_Is g false s (by omega) hres) (by decide); rw [rd5, rd6.1, rd6.2] at h; exact h)) rfl ?_
  simp [lexV, rdp]
  repeat refine sg ?_
  refine hK9 _ ?_
  clear hK9 K9
  refine AT_seq_region fun K10 hK10 => ?_
  simp [lexV, rdp, rdX, encE_mk]
  repeat refine sg ?_
  refine RVn_call ((by have h := c_ref04x_Text g false rdM (by decide); exact h : Valid Tryd.prog (G0 g false) 13 [.agg (encTy rdM)] (.str [77, 97, 112, 91, 97, 44, 32, 76, 105, 115, 116, 91, 98, 93, 93]))) ?_
  simp [lexV, rdp, rdX, encE_mk]
  repeat refine sg ?_
  refine RVn_call (c_law07x_told g 2 2 (by decide) hty) ?_
  simp [lexV, rdp, rdX, encE_mk]
  repeat refine sg ?_
  refine RVn_callC ((by have h := c_read_Cursor_Take g [44] b ⟨rdK, none⟩ (by decide); rw [rd7.1, rd8] at h; exact h)) rfl ?_
  simp [lexV, rdp, rdX, encE_mk]
  repeat refine sg ?_
  refine RVn_callC ((by have h := c_read_Cursor_Next g [98] b ⟨rdN, none⟩ (by decide); rw [rd7.2.1] at h; exact h)) rfl ?_
  simp [lexV, rdp, rdX, encE_mk]
  repeat refine sg ?_
  refine RVn_callC ((by have h := c_read_Cursor_Take g [120] b ⟨rdN, none⟩ (by decide); rw [rd7.2.2, rd9] at h; exact h)) rfl ?_
  simp [lexV, rdp, rdX, encE_mk]
  repeat refine sg ?_
  refine hK10 _ ?_
  clear hK10 K10
  refine AT_ret ?_
  simp [lexV, rdp, Tryd.f7]

theorem toldA {g : Nat → Option (List AV)} (e : AV) (k n : Int) (h : (k = 0 ∧ e = .nilIface) ∨ (k ≠ 0 ∧ e = .iface 110 (.agg [.int .i64 k, .int .i64 n]))) (hty : g 1 = some errTy) : Valid Tryd.prog (G0 g false) 29 [e, .int .i64 k, .int .i64 n] (.bool true) := by
 rcases h with ⟨rfl, rfl⟩ | ⟨hk, rfl⟩
 · exact c_law07x_told_0 g n
 · exact c_law07x_told g k n hk hty

end Go.Proofs.YtpjkdaechknogaaDoor

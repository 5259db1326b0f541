/- Contracts: what every law of this package asks first. -/
import Derived.Test.YtjkabaejabibnaaDoorPt
import Derived.Test.YtjkabaejabibnaaDoorPvPa
import Derived.Test.YtjkabaejabibnaaDoorPvZ
import Derived.Test.YtjkabaejabibnaaDoorXTyI
import Derived.Test.YtjkabaejabibnaaDoorXExD
import Derived.Test.YtjkabaejabibnaaDoorXExC
import Derived.Test.YtjkabaejabibnaaDoorXExA
import Derived.Test.YtjkabaejabibnaaDoorXExB
import Derived.Test.YtjkabaejabibnaaDoorXExF
set_option linter.all false
set_option maxHeartbeats 1000000
set_option maxRecDepth 10000
namespace Go.Proofs.YtjkabaejabibnaaDoor
open Go Go.Pv
variable (g : Nat → Option (List AV)) (rnd : Bool)

def awX : Exp := .mk 1 [120] ty0 [] [] 0
def awF : Exp := .mk 1 [102] ty0 [] [] 0
def awV : Exp := .mk 3 [] (.mk [84] [] 0) [] [] 0
def awC : Exp := .mk 2 [77, 97, 112] ty0 [.mk [98] [] 0] [awX, awF] 0
def awE : Exp := .mk 2 [77, 97, 112] ty0 [.mk [73, 110, 116] [] 0] [awX, awF] 0
def awR : Exp := .mk 2 [77, 97, 112] ty0 [.mk [98] [] 0] [awX, awV] 0
theorem c_law05x_awake (hres : g 0 = some reservedA) : Valid Tryd.prog (G0 g false) 8 [] (.bool true) := by

 refine valid_of [] Tryd.func8 rfl (by kernel_rfl) ?_
 refine AT_seq_region fun K1 hK1 => ?_
 simp [Tryd.f8]
 repeat refine sg ?_
 refine hK1 _ ?_
 clear hK1 K1
 refine AT_seq_region fun K2 hK2 => ?_
 simp
 repeat refine sg ?_
 refine hK2 _ ?_
 clear hK2 K2
 refine AT_seq_region fun K3 hK3 => ?_
 simp
 repeat refine sg ?_
 refine hK3 _ ?_
 clear hK3 K3
 refine AT_seq_region fun K4 hK4 => ?_
 simp
 repeat refine sg ?_
 refine hK4 _ ?_
 clear hK4 K4
 refine AT_seq_region fun K5 hK5 => ?_
 simp
 repeat refine sg ?_
 refine hK5 _ ?_
 clear hK5 K5
 refine AT_seq_region fun K6 hK6 => ?_
 simp
 repeat refine sg ?_
 refine RVn_call ((by have h := c_expr_Subst g false [[98]] [.mk [73, 110, 116] [] 0] (by decide) (by decide) (by decide) awC (by decide); exact h : Valid Tryd.prog (G0 g false) 22 [.agg [.int .i64 2, .str [77, 97, 112], .str [], .slice [], .int .i64 0, .slice [[.str [98], .slice [], .int .i64 0]], .slice [[.int .i64 1, .str [120], .str [], .slice [], .int .i64 0, .slice [], .slice [], .int .i64 0], [.int .i64 1, .str [102], .str [], .slice [], .int .i64 0, .slice [], .slice [], .int .i64 0]], .int .i64 0], .slice [[.str [98]]], .slice [[.str [73, 110, 116], .slice [], .int .i64 0]]] (.agg [.int .i64 2, .str [77, 97, 112], .str [], .slice [], .int .i64 0, .slice [[.str [73, 110, 116], .slice [], .int .i64 0]], .slice [[.int .i64 1, .str [120], .str [], .slice [], .int .i64 0, .slice [], .slice [], .int .i64 0], [.int .i64 1, .str [102], .str [], .slice [], .int .i64 0, .slice [], .slice [], .int .i64 0]], .int .i64 0]))) ?_
 simp
 repeat refine sg ?_
 refine hK6 _ ?_
 clear hK6 K6
 refine AT_seq_region fun K7 hK7 => ?_
 simp
 repeat refine sg ?_
 refine RVn_call ((by have h := c_expr_Text g false awC (by decide) (by decide); exact h : Valid Tryd.prog (G0 g false) 14 [.agg [.int .i64 2, .str [77, 97, 112], .str [], .slice [], .int .i64 0, .slice [[.str [98], .slice [], .int .i64 0]], .slice [[.int .i64 1, .str [120], .str [], .slice [], .int .i64 0, .slice [], .slice [], .int .i64 0], [.int .i64 1, .str [102], .str [], .slice [], .int .i64 0, .slice [], .slice [], .int .i64 0]], .int .i64 0]] (.str [120, 46, 77, 97, 112, 91, 98, 93, 40, 102, 41]))) ?_
 simp
 repeat refine sg ?_
 refine RVn_call ((by have h := c_expr_Right g false awC (by decide) hres; exact h : Valid Tryd.prog (G0 g false) 10 [.agg [.int .i64 2, .str [77, 97, 112], .str [], .slice [], .int .i64 0, .slice [[.str [98], .slice [], .int .i64 0]], .slice [[.int .i64 1, .str [120], .str [], .slice [], .int .i64 0, .slice [], .slice [], .int .i64 0], [.int .i64 1, .str [102], .str [], .slice [], .int .i64 0, .slice [], .slice [], .int .i64 0]], .int .i64 0]] (.bool true))) ?_
 simp
 repeat refine sg ?_
 refine RVn_call ((by have h := c_expr_Right g false ex0 (by decide) hres; exact h : Valid Tryd.prog (G0 g false) 10 [.agg [.int .i64 0, .str [], .str [], .slice [], .int .i64 0, .slice [], .slice [], .int .i64 0]] (.bool false))) ?_
 simp
 repeat refine sg ?_
 refine RVn_call ((by have h := c_expr_Depth g false awC (by decide); exact h : Valid Tryd.prog (G0 g false) 16 [.agg [.int .i64 2, .str [77, 97, 112], .str [], .slice [], .int .i64 0, .slice [[.str [98], .slice [], .int .i64 0]], .slice [[.int .i64 1, .str [120], .str [], .slice [], .int .i64 0, .slice [], .slice [], .int .i64 0], [.int .i64 1, .str [102], .str [], .slice [], .int .i64 0, .slice [], .slice [], .int .i64 0]], .int .i64 0]] (.int .i64 2))) ?_
 simp
 repeat refine sg ?_
 refine RVn_call ((by have h := c_expr_Value g false awC (by decide); exact h : Valid Tryd.prog (G0 g false) 18 [.agg [.int .i64 2, .str [77, 97, 112], .str [], .slice [], .int .i64 0, .slice [[.str [98], .slice [], .int .i64 0]], .slice [[.int .i64 1, .str [120], .str [], .slice [], .int .i64 0, .slice [], .slice [], .int .i64 0], [.int .i64 1, .str [102], .str [], .slice [], .int .i64 0, .slice [], .slice [], .int .i64 0]], .int .i64 0]] (.bool false))) ?_
 simp
 repeat refine sg ?_
 refine RVn_call ((by have h := c_expr_Value g false awV (by decide); exact h : Valid Tryd.prog (G0 g false) 18 [.agg [.int .i64 3, .str [], .str [84], .slice [], .int .i64 0, .slice [], .slice [], .int .i64 0]] (.bool true))) ?_
 simp
 repeat refine sg ?_
 refine RVn_call ((by have h := c_expr_Text g false awE (by decide) (by decide); exact h : Valid Tryd.prog (G0 g false) 14 [.agg [.int .i64 2, .str [77, 97, 112], .str [], .slice [], .int .i64 0, .slice [[.str [73, 110, 116], .slice [], .int .i64 0]], .slice [[.int .i64 1, .str [120], .str [], .slice [], .int .i64 0, .slice [], .slice [], .int .i64 0], [.int .i64 1, .str [102], .str [], .slice [], .int .i64 0, .slice [], .slice [], .int .i64 0]], .int .i64 0]] (.str [120, 46, 77, 97, 112, 91, 73, 110, 116, 93, 40, 102, 41]))) ?_
 simp
 repeat refine sg ?_
 refine RVn_call ((by have h := c_expr_Replace g false [[102]] [awV] (by decide) (by decide) (by decide) awC (by decide); exact h : Valid Tryd.prog (G0 g false) 25 [.agg [.int .i64 2, .str [77, 97, 112], .str [], .slice [], .int .i64 0, .slice [[.str [98], .slice [], .int .i64 0]], .slice [[.int .i64 1, .str [120], .str [], .slice [], .int .i64 0, .slice [], .slice [], .int .i64 0], [.int .i64 1, .str [102], .str [], .slice [], .int .i64 0, .slice [], .slice [], .int .i64 0]], .int .i64 0], .slice [[.str [102]]], .slice [[.int .i64 3, .str [], .str [84], .slice [], .int .i64 0, .slice [], .slice [], .int .i64 0]]] (.agg [.int .i64 2, .str [77, 97, 112], .str [], .slice [], .int .i64 0, .slice [[.str [98], .slice [], .int .i64 0]], .slice [[.int .i64 1, .str [120], .str [], .slice [], .int .i64 0, .slice [], .slice [], .int .i64 0], [.int .i64 3, .str [], .str [84], .slice [], .int .i64 0, .slice [], .slice [], .int .i64 0]], .int .i64 0]))) ?_
 simp
 repeat refine sg ?_
 refine RVn_call ((by have h := c_expr_Text g false awR (by decide) (by decide); exact h : Valid Tryd.prog (G0 g false) 14 [.agg [.int .i64 2, .str [77, 97, 112], .str [], .slice [], .int .i64 0, .slice [[.str [98], .slice [], .int .i64 0]], .slice [[.int .i64 1, .str [120], .str [], .slice [], .int .i64 0, .slice [], .slice [], .int .i64 0], [.int .i64 3, .str [], .str [84], .slice [], .int .i64 0, .slice [], .slice [], .int .i64 0]], .int .i64 0]] (.str [120, 46, 77, 97, 112, 91, 98, 93, 40, 84, 123, 125, 41]))) ?_
 simp
 repeat refine sg ?_
 refine RVn_call ((by have h := c_expr_Same g false awC awC (by decide); exact h : Valid Tryd.prog (G0 g false) 12 [.agg [.int .i64 2, .str [77, 97, 112], .str [], .slice [], .int .i64 0, .slice [[.str [98], .slice [], .int .i64 0]], .slice [[.int .i64 1, .str [120], .str [], .slice [], .int .i64 0, .slice [], .slice [], .int .i64 0], [.int .i64 1, .str [102], .str [], .slice [], .int .i64 0, .slice [], .slice [], .int .i64 0]], .int .i64 0], .agg [.int .i64 2, .str [77, 97, 112], .str [], .slice [], .int .i64 0, .slice [[.str [98], .slice [], .int .i64 0]], .slice [[.int .i64 1, .str [120], .str [], .slice [], .int .i64 0, .slice [], .slice [], .int .i64 0], [.int .i64 1, .str [102], .str [], .slice [], .int .i64 0, .slice [], .slice [], .int .i64 0]], .int .i64 0]] (.bool true))) ?_
 simp
 repeat refine sg ?_
 refine RVn_call ((by have h := c_expr_Same g false awC awE (by decide); exact h : Valid Tryd.prog (G0 g false) 12 [.agg [.int .i64 2, .str [77, 97, 112], .str [], .slice [], .int .i64 0, .slice [[.str [98], .slice [], .int .i64 0]], .slice [[.int .i64 1, .str [120], .str [], .slice [], .int .i64 0, .slice [], .slice [], .int .i64 0], [.int .i64 1, .str [102], .str [], .slice [], .int .i64 0, .slice [], .slice [], .int .i64 0]], .int .i64 0], .agg [.int .i64 2, .str [77, 97, 112], .str [], .slice [], .int .i64 0, .slice [[.str [73, 110, 116], .slice [], .int .i64 0]], .slice [[.int .i64 1, .str [120], .str [], .slice [], .int .i64 0, .slice [], .slice [], .int .i64 0], [.int .i64 1, .str [102], .str [], .slice [], .int .i64 0, .slice [], .slice [], .int .i64 0]], .int .i64 0]] (.bool false))) ?_
 simp
 repeat refine sg ?_
 refine RVn_call ((by have h := c_expr_All g false awC; exact h : Valid Tryd.prog (G0 g false) 28 [.agg [.int .i64 2, .str [77, 97, 112], .str [], .slice [], .int .i64 0, .slice [[.str [98], .slice [], .int .i64 0]], .slice [[.int .i64 1, .str [120], .str [], .slice [], .int .i64 0, .slice [], .slice [], .int .i64 0], [.int .i64 1, .str [102], .str [], .slice [], .int .i64 0, .slice [], .slice [], .int .i64 0]], .int .i64 0]] (.func 56 [.ro ([.int .i64 2, .str [77, 97, 112], .str [], .slice [], .int .i64 0, .slice [[.str [98], .slice [], .int .i64 0]], .slice [[.int .i64 1, .str [120], .str [], .slice [], .int .i64 0, .slice [], .slice [], .int .i64 0], [.int .i64 1, .str [102], .str [], .slice [], .int .i64 0, .slice [], .slice [], .int .i64 0]], .int .i64 0])]))) ?_
 simp
 repeat refine sg ?_
 refine hK7 _ ?_
 clear hK7 K7
 refine AT_ret ?_
 simp [Tryd.f8]

end Go.Proofs.YtjkabaejabibnaaDoor

/- Contracts. -/
import Derived.Test.YtghmdnfdocdgfaaDoorPt
import Derived.Test.YtghmdnfdocdgfaaDoorPvZ
import Derived.Test.YtghmdnfdocdgfaaDoorXTyQ
import Derived.Test.YtghmdnfdocdgfaaDoorXTyG
import Derived.Test.YtghmdnfdocdgfaaDoorXTyJ
import Derived.Test.YtghmdnfdocdgfaaDoorXTyI
import Derived.Test.YtghmdnfdocdgfaaDoorXTyA
set_option linter.all false
set_option maxHeartbeats 1000000
set_option maxRecDepth 10000
namespace Go.Proofs.YtghmdnfdocdgfaaDoor
open Go Go.Pv
variable (g : Nat → Option (List AV)) (rnd : Bool)

theorem c_law04x_awake (hres : g 0 = some reservedA) : Valid Tryd.prog (G0 g rnd) 9 [] (.bool true) := by

  refine valid_of [] Tryd.func9 rfl (by kernel_rfl) ?_
  refine AT_seq_region fun K1 hK1 => ?_
  simp [Tryd.f9]
  repeat (refine ⟨by first | omega | (simp at *; omega), ?_⟩)
  refine hK1 _ ?_
  clear hK1 K1
  refine AT_seq_region fun K2 hK2 => ?_
  simp
  repeat (refine ⟨by first | omega | (simp at *; omega), ?_⟩)
  refine hK2 _ ?_
  clear hK2 K2
  refine AT_seq_region fun K3 hK3 => ?_
  simp
  repeat (refine ⟨by first | omega | (simp at *; omega), ?_⟩)
  refine hK3 _ ?_
  clear hK3 K3
  refine AT_seq_region fun K4 hK4 => ?_
  simp
  repeat (refine ⟨by first | omega | (simp at *; omega), ?_⟩)
  refine RVn_call ((by have h := c_types_Subst g rnd [[98]] [awI] (by decide) (by decide) (by decide) awT (by decide); exact h : Valid Tryd.prog (G0 g rnd) 23 [.agg [.str [77, 97, 112], .slice [[.str [97], .slice [], .int .i64 0], [.str [76, 105, 115, 116], .slice [[.str [98], .slice [], .int .i64 0]], .int .i64 0]], .int .i64 0], .slice [[.str [98]]], .slice [[.str [73, 110, 116], .slice [], .int .i64 0]]] (.agg [.str [77, 97, 112], .slice [[.str [97], .slice [], .int .i64 0], [.str [76, 105, 115, 116], .slice [[.str [73, 110, 116], .slice [], .int .i64 0]], .int .i64 0]], .int .i64 0]))) ?_
  simp
  repeat (refine ⟨by first | omega | (simp at *; omega), ?_⟩)
  refine hK4 _ ?_
  clear hK4 K4
  refine AT_seq_region fun K5 hK5 => ?_
  simp
  repeat (refine ⟨by first | omega | (simp at *; omega), ?_⟩)
  refine RVn_call ((by have h := c_types_Text g rnd awT (by decide); exact h : Valid Tryd.prog (G0 g rnd) 14 [.agg [.str [77, 97, 112], .slice [[.str [97], .slice [], .int .i64 0], [.str [76, 105, 115, 116], .slice [[.str [98], .slice [], .int .i64 0]], .int .i64 0]], .int .i64 0]] (.str [77, 97, 112, 91, 97, 44, 32, 76, 105, 115, 116, 91, 98, 93, 93]))) ?_
  simp
  repeat (refine ⟨by first | omega | (simp at *; omega), ?_⟩)
  refine RVn_call ((by have h := c_types_Text g rnd awS (by decide); exact h : Valid Tryd.prog (G0 g rnd) 14 [.agg [.str [77, 97, 112], .slice [[.str [97], .slice [], .int .i64 0], [.str [76, 105, 115, 116], .slice [[.str [73, 110, 116], .slice [], .int .i64 0]], .int .i64 0]], .int .i64 0]] (.str [77, 97, 112, 91, 97, 44, 32, 76, 105, 115, 116, 91, 73, 110, 116, 93, 93]))) ?_
  simp
  repeat (refine ⟨by first | omega | (simp at *; omega), ?_⟩)
  refine RVn_call ((by have h := c_types_Depth g rnd awT (by decide); exact h : Valid Tryd.prog (G0 g rnd) 16 [.agg [.str [77, 97, 112], .slice [[.str [97], .slice [], .int .i64 0], [.str [76, 105, 115, 116], .slice [[.str [98], .slice [], .int .i64 0]], .int .i64 0]], .int .i64 0]] (.int .i64 3))) ?_
  simp
  repeat (refine ⟨by first | omega | (simp at *; omega), ?_⟩)
  refine RVn_call ((by have h := c_types_Size g rnd awT (by decide); exact h : Valid Tryd.prog (G0 g rnd) 18 [.agg [.str [77, 97, 112], .slice [[.str [97], .slice [], .int .i64 0], [.str [76, 105, 115, 116], .slice [[.str [98], .slice [], .int .i64 0]], .int .i64 0]], .int .i64 0]] (.int .i64 4))) ?_
  simp
  repeat (refine ⟨by first | omega | (simp at *; omega), ?_⟩)
  refine RVn_call ((by have h := c_types_Right g rnd awT (by decide) hres; exact h : Valid Tryd.prog (G0 g rnd) 20 [.agg [.str [77, 97, 112], .slice [[.str [97], .slice [], .int .i64 0], [.str [76, 105, 115, 116], .slice [[.str [98], .slice [], .int .i64 0]], .int .i64 0]], .int .i64 0]] (.bool true))) ?_
  simp
  repeat (refine ⟨by first | omega | (simp at *; omega), ?_⟩)
  refine RVn_call ((by have h := c_types_Same g rnd awT awT (by decide); exact h : Valid Tryd.prog (G0 g rnd) 13 [.agg [.str [77, 97, 112], .slice [[.str [97], .slice [], .int .i64 0], [.str [76, 105, 115, 116], .slice [[.str [98], .slice [], .int .i64 0]], .int .i64 0]], .int .i64 0], .agg [.str [77, 97, 112], .slice [[.str [97], .slice [], .int .i64 0], [.str [76, 105, 115, 116], .slice [[.str [98], .slice [], .int .i64 0]], .int .i64 0]], .int .i64 0]] (.bool true))) ?_
  simp
  repeat (refine ⟨by first | omega | (simp at *; omega), ?_⟩)
  refine RVn_call ((by have h := c_types_Same g rnd awT awS (by decide); exact h : Valid Tryd.prog (G0 g rnd) 13 [.agg [.str [77, 97, 112], .slice [[.str [97], .slice [], .int .i64 0], [.str [76, 105, 115, 116], .slice [[.str [98], .slice [], .int .i64 0]], .int .i64 0]], .int .i64 0], .agg [.str [77, 97, 112], .slice [[.str [97], .slice [], .int .i64 0], [.str [76, 105, 115, 116], .slice [[.str [73, 110, 116], .slice [], .int .i64 0]], .int .i64 0]], .int .i64 0]] (.bool false))) ?_
  simp
  repeat (refine ⟨by first | omega | (simp at *; omega), ?_⟩)
  refine RVn_call ((by have h := c_types_Compare g rnd awB awT (by decide); exact h : Valid Tryd.prog (G0 g rnd) 11 [.agg [.str [98], .slice [], .int .i64 0], .agg [.str [77, 97, 112], .slice [[.str [97], .slice [], .int .i64 0], [.str [76, 105, 115, 116], .slice [[.str [98], .slice [], .int .i64 0]], .int .i64 0]], .int .i64 0]] (.int .i64 1))) ?_
  simp
  repeat (refine ⟨by first | omega | (simp at *; omega), ?_⟩)
  refine RVn_call ((by have h := c_types_Names g rnd awT; exact h : Valid Tryd.prog (G0 g rnd) 28 [.agg [.str [77, 97, 112], .slice [[.str [97], .slice [], .int .i64 0], [.str [76, 105, 115, 116], .slice [[.str [98], .slice [], .int .i64 0]], .int .i64 0]], .int .i64 0]] (.func 40 [.ro ([.str [77, 97, 112], .slice [[.str [97], .slice [], .int .i64 0], [.str [76, 105, 115, 116], .slice [[.str [98], .slice [], .int .i64 0]], .int .i64 0]], .int .i64 0])]))) ?_
  simp
  repeat (refine ⟨by first | omega | (simp at *; omega), ?_⟩)
  refine hK5 _ ?_
  clear hK5 K5
  refine AT_ret ?_
  simp [Tryd.f9]

end Go.Proofs.YtghmdnfdocdgfaaDoor

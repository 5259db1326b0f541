/- Library contracts. -/
import Derived.Test.YtoehgdamenpclaaDoorPt
import Derived.Test.YtoehgdamenpclaaDoorPvLc
import Derived.Test.YtoehgdamenpclaaDoorPvX
import Derived.Test.YtoehgdamenpclaaDoorXShelf
set_option linter.all false
set_option maxHeartbeats 1000000
set_option maxRecDepth 10000
namespace Go.Proofs.YtoehgdamenpclaaDoor
open Go Go.Pv
variable (g : Nat → Option (List AV)) (rnd : Bool)

theorem c_strings_Join (l : List Str) (sep : Str) (hn : l.length ≤ 140737488355328) (hlen : (Lib.join l sep).length ≤ 140737488355328) : Valid Tryd.prog (G0 g rnd) 30 [.slice (l.map encS), .str sep] (.str (Lib.join l sep)) :=
  join_valid (by kernel_rfl) (fun a c sep w => Tryd.strings_Join_none a c sep w) (fun bk o c xs sep w h1 h2 h3 h4 h5 => Tryd.strings_Join bk o c xs sep w h1 h2 h3 h4 h5) l sep hn hlen

end Go.Proofs.YtoehgdamenpclaaDoor

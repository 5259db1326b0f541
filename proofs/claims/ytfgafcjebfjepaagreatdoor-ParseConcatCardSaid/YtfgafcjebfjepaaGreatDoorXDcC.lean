import Derived.Test.YtfgafcjebfjepaaGreatDoorPt
import Derived.Test.YtfgafcjebfjepaaGreatDoorPvPb
import Derived.Test.YtfgafcjebfjepaaGreatDoorPvLa
import Derived.Test.YtfgafcjebfjepaaGreatDoorXShelf
import Derived.Laws.CopyOwn
import Derived.Laws.MakeOwn
import Derived.Deep.RegionLaw
import Derived.Lib.SlBuf
import Derived.WalkKit
import Derived.Test.YtfgafcjebfjepaaGreatDoorXExA
import Derived.Test.YtfgafcjebfjepaaGreatDoorXTyD
import Derived.Test.YtfgafcjebfjepaaGreatDoorXDcB
import Derived.Test.YtfgafcjebfjepaaGreatDoorXRdH
import Derived.Test.YtfgafcjebfjepaaGreatDoorXNaB
section
/- slices.Repeat at one expression that is zero: as many zero expressions. -/
set_option linter.all false
set_option maxHeartbeats 1000000
set_option maxRecDepth 10000
namespace Go.Proofs.YtfgafcjebfjepaaGreatDoor
open Go Go.Pv
variable (g : Nat → Option (List AV)) (rnd : Bool)

open Go.RowKit
def ZR (j : Nat) (v : Value) : Prop := match j with
  | 0 => v = .int .i64 0
  | 1 => v = .string ⟨#[]⟩
  | 2 => v = .string ⟨#[]⟩
  | 3 => ∃ p c, v = .slice p 0 c
  | 4 => v = .int .i64 0
  | 5 => ∃ p c, v = .slice p 0 c
  | 6 => ∃ p c, v = .slice p 0 c
  | _ => v = .int .i64 0
def PZ (n : Nat) (cur : List Value) : Prop := cur.length = 8 * n ∧ ∀ j v, cur[j]? = some v → ZR (j % 8) v
def rep_z : Value := .agg #[.int .i64 0, .string ⟨#[]⟩, .string ⟨#[]⟩, .slice none 0 0, .int .i64 0, .slice none 0 0, .slice none 0 0, .int .i64 0]
def enc0 : List AV := [.int .i64 0, .str [], .str [], .slice [], .int .i64 0, .slice [], .slice [], .int .i64 0]
def ZA : Nat → AV
  | 0 => .int .i64 0
  | 1 => .str []
  | 2 => .str []
  | 3 => .slice []
  | 4 => .int .i64 0
  | 5 => .slice []
  | 6 => .slice []
  | _ => .int .i64 0
end Go.Proofs.YtfgafcjebfjepaaGreatDoor
end

section
/- Contracts: expressions, shown and measured. -/
set_option linter.all false
set_option maxHeartbeats 1000000
set_option maxRecDepth 10000
namespace Go.Proofs.YtfgafcjebfjepaaGreatDoor
open Go Go.Pv
variable (g:Nat→Option (List AV)) (rnd:Bool)

end Go.Proofs.YtfgafcjebfjepaaGreatDoor
end

section
/- Contracts: right expressions. -/
set_option linter.all false
set_option maxHeartbeats 1000000
set_option maxRecDepth 10000
namespace Go.Proofs.YtfgafcjebfjepaaGreatDoor
open Go Go.Pv
variable (g:Nat→Option (List AV)) (rnd:Bool)

end Go.Proofs.YtfgafcjebfjepaaGreatDoor
end

section
/- Contracts: right declarations. -/
set_option linter.all false
set_option maxHeartbeats 1000000
set_option maxRecDepth 10000
namespace Go.Proofs.YtfgafcjebfjepaaGreatDoor
open Go Go.Pv
variable (g:Nat→Option (List AV)) (rnd:Bool)

end Go.Proofs.YtfgafcjebfjepaaGreatDoor
end

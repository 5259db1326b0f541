/- From data to declarations and programs. -/
import Derived.Test.YtfgafcjebfjepaaGreatDoorPvRb
import Derived.Test.YtfgafcjebfjepaaGreatDoorPvDc
set_option linter.all false
namespace Go.Pv
open Go

structure DTys (P:Program) where
 S:Nat
 I:Nat
 L:Nat
 T:Nat
 X:Nat
 E:Nat
 SL:Nat
 FL:Nat
 F:Nat
 QL:Nat
 Q:Nat
 GL:Nat
 G:Nat
 hS:P.underlying S=some .string
 hI:P.underlying I=some (.int .i64)
 hL:P.underlying L=some (.slice T)
 hF:ftypes P T=some [S,L,I]
 hb:0 < P.bytesOf T
 hX:P.underlying X=some (.slice E)
 hE:ftypes P E=some [I,S,T,L,X,I]
 hbe:0 < P.bytesOf E
 hSL:P.underlying SL=some (.slice S)
 hbs:0 < P.bytesOf S
 hFL:P.underlying FL=some (.slice F)
 hFF:ftypes P F=some [S,T,I]
 hbf:0 < P.bytesOf F
 hQL:P.underlying QL=some (.slice Q)
 hQQ:ftypes P Q=some [S,T,I]
 hbq:0 < P.bytesOf Q
 hGL:P.underlying GL=some (.slice G)
 hGG:ftypes P G=some [S,FL,QL,T,I]
 hbg:0 < P.bytesOf G

section
variable {H:Type} {P:Program}

end
end Go.Pv

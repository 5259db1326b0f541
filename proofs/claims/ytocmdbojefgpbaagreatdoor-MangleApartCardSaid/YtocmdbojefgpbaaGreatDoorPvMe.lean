import Derived.Test.YtocmdbojefgpbaaGreatDoorPvMc
import Derived.Test.YtocmdbojefgpbaaGreatDoorPvY
set_option linter.all false
section
/- From data to expressions. -/
namespace Go.Pv
open Go

section
variable {H : Type} {P : Program} {S I L T E X : Nat} (hS : P.underlying S = some .string) (hI : P.underlying I = some (.int .i64)) (hL : P.underlying L = some (.slice T)) (hF : ftypes P T = some [S, L, I]) (hb : 0 < P.bytesOf T)
  (hX : P.underlying X = some (.slice E)) (hE : ftypes P E = some [I, S, T, L, X, I]) (hbe : 0 < P.bytesOf E)
include hS hI hL hF hb hX hE hbe
end
end Go.Pv
end

section
/- The sizes of expressions behind substituting and replacing. -/
namespace Go.Pv
open Go

end Go.Pv
end

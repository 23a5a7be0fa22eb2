/- law 47, XHJ without what XU has. -/
import Derived.Test.YtiffminhlimajaaMI
namespace Go.Proofs.Ytiffminhlimajaa
open Go.RowKit
/-- byte j of header feedback -/
def fb (z : Nat → Int) (j : Nat) : Int := if j = 0 then 16 else z (j - 1)
end Go.Proofs.Ytiffminhlimajaa

/- law 47, XHI without what XU has. -/
import Derived.Test.YtiffminhlimajaaMG
namespace Go.Proofs.Ytiffminhlimajaa
open Go.RowKit
end Go.Proofs.Ytiffminhlimajaa

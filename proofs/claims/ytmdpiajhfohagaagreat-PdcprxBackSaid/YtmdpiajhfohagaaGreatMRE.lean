import Derived.Test.YtmdpiajhfohagaaGreatMGB
import Derived.Test.YtmdpiajhfohagaaGreatRA
import Derived.Test.YtmdpiajhfohagaaGreatMGG
import Derived.Test.YtmdpiajhfohagaaGreatMGJ
import Derived.Test.YtmdpiajhfohagaaGreatRD
import Derived.BigRegion
namespace Go.Proofs.YtmdpiajhfohagaaGreat
open Go
set_option linter.unusedVariables false
end Go.Proofs.YtmdpiajhfohagaaGreat
namespace Go.Proofs.YtmdpiajhfohagaaGreat
open Go
set_option linter.unusedVariables false
end Go.Proofs.YtmdpiajhfohagaaGreat
namespace Go.Proofs.YtmdpiajhfohagaaGreat
open Go.RowKit
attribute [local go_sem ↓] Go.wp_at_zero Go.wp_at_succ
set_option linter.unusedVariables false
end Go.Proofs.YtmdpiajhfohagaaGreat
namespace Go.Proofs.YtmdpiajhfohagaaGreat
open Go.RowKit
set_option linter.unusedVariables false
attribute [local go_sem ↓] Go.wp_at_zero Go.wp_at_succ
end Go.Proofs.YtmdpiajhfohagaaGreat

import Derived.Test.YtbfpdnnphdagjaaGreatMFz
set_option linter.unusedVariables false
set_option linter.unusedSimpArgs false
namespace Go.Proofs.YtbfpdnnphdagjaaGreat
open Go.RowKit
def fb (z:Nat->Int) (j:Nat):Int:=if j=0 then 16 else z (j-1)
end Go.Proofs.YtbfpdnnphdagjaaGreat

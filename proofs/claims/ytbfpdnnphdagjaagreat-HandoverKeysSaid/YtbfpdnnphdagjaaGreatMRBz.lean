import Derived.Test.YtbfpdnnphdagjaaGreatVLz
import Derived.Test.YtbfpdnnphdagjaaGreatVAz
import Derived.Test.YtbfpdnnphdagjaaGreatRLz
import Derived.Test.YtbfpdnnphdagjaaGreatMVMz
import Derived.BigRegion
set_option linter.unusedVariables false
set_option linter.unusedSimpArgs false
namespace Go.Proofs.YtbfpdnnphdagjaaGreat
open Go.RowKit
attribute [local go_sem ↓] Go.wp_at_zero Go.wp_at_succ
theorem fI (f:Nat->Nat):(Tryz.prog.info? 23).map (·.size)=some (am f).size:=by rw[aj];kernel_rfl
theorem aa.setRow {F:Nat->Prop} {w w':World} (h:aa F w w') {g:Nat} (hg:F g) (cs:Array Value):aa F w (w'.setRow g cs):=
 ⟨h.os,h.tape,h.output,by rw[size_setRow];exact h.size,fun k hk hn=>(setRow_other w' g k cs (fun e=>hn (e ▸ hg))).trans (h.block k hk hn)⟩
end Go.Proofs.YtbfpdnnphdagjaaGreat

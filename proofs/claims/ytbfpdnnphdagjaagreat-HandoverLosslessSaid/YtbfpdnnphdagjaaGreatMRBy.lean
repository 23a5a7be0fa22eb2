import Derived.Test.YtbfpdnnphdagjaaGreatMVJy
import Derived.Test.YtbfpdnnphdagjaaGreatVAy
import Derived.Test.YtbfpdnnphdagjaaGreatRLy
import Derived.Test.YtbfpdnnphdagjaaGreatMVMy
import Derived.BigRegion
set_option linter.unusedVariables false
set_option linter.unusedSimpArgs false
namespace Go.Proofs.YtbfpdnnphdagjaaGreat
open Go.RowKit
attribute [local go_sem ↓] Go.wp_at_zero Go.wp_at_succ
theorem gX (f:Nat->Nat):(Tryz.prog.info? 23).map (·.size)=some (av f).size:=by rw[ak];kernel_rfl
theorem SL.rowOf {w:World} {A:Option Addr} {n c:Nat} {xs:List Value} {e:TypeId} {f:Nat->Value} (h:SL w e 1 A n c xs) (hx:∀j,j < n->xs[j]? = some (f j)):aD w w.heap.size A n f:=fun hn=>by
 obtain⟨b,o,hA,hb⟩:=h.some_ hn
 exact⟨b,o,hA,hb,fun j hj=>(h.cell hA (by omega)).trans (hx j hj)⟩
theorem aa.setRow {F:Nat->Prop} {w w':World} (h:aa F w w') {g:Nat} (hg:F g) (cs:Array Value):aa F w (w'.setRow g cs):=
 ⟨h.os,h.tape,h.output,by rw[size_setRow];exact h.size,fun k hk hn=>(setRow_other w' g k cs (fun e=>hn (e ▸ hg))).trans (h.block k hk hn)⟩
end Go.Proofs.YtbfpdnnphdagjaaGreat

import Derived.Test.YtiiojpnckbglcaaGreatMIIs
import Derived.Test.YtiiojpnckbglcaaGreatMRLs
import Derived.OwnWalkIn
set_option linter.unusedVariables false
set_option linter.unusedSimpArgs false
namespace Go.Proofs.YtiiojpnckbglcaaGreat
open Go.RowKit
attribute [local go_sem] Oper.semAt_some
theorem mH {P:Program} {ops:Array Oper} {Q:Exit->Act->World->Prop} {S:World->Prop} {L:Nat} {id:Nat} {a:Act} {w:World} (hm:P.follows .mixedOrders=true) (hS:S w.drew)
  (h:S w.drew->dh P .any ops (fun x a w=>match x with | .panic _=>False | y=>Q y a w) S L ops.size (Array.replicate ops.size false) a w.drew):(Code.region id ops true).wp P Q a w:=
 Code.wp_mono (fun e a w h=>by cases e<;>first | exact h.elim | exact h) (nm hm hS h)
theorem Tryz.infoSl:(Tryz.prog.info? 44).map (fun i=>(i.zero,i.size,i.bytes))=some (some (.slice none 0 0),1,24):=by kernel_rfl
theorem aa.of_putObj (W:World) (D:Nat) (o:Obj):aa (fun k=>k=D) W (W.putObj D o):=aa.of_row (grownBy_putObj' W D o) rfl
end Go.Proofs.YtiiojpnckbglcaaGreat

import Derived.Test.YtnadmdadcpemnaaGreatMDQy
import Derived.Test.YtnadmdadcpemnaaGreatMTBy
namespace Go.Proofs.YtnadmdadcpemnaaGreat
open Go.RowKit
set_option linter.unusedVariables false
set_option linter.unusedSimpArgs false
attribute [local go_sem ↓] Go.wp_at_zero Go.wp_at_succ
theorem insV_end (x:SV):∀(l:List SV),(∀y,y∈l→y.ct < x.ct)→insV x l=l++[x]
 | [],_=>rfl
 | y :: r,h=>by
  have h1:=h y (by simp)
  show(if x.ct < y.ct then x :: y :: r else y :: insV x r)=_
  rw[if_neg (by omega),insV_end x r (fun z hz=>h z (by simp[hz]))]
  rfl
end Go.Proofs.YtnadmdadcpemnaaGreat

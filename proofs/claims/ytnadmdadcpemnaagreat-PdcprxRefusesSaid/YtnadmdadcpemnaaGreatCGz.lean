import Derived.Test.YtnadmdadcpemnaaGreatMDXz
import Derived.Test.YtnadmdadcpemnaaGreatMDVAz
import Derived.Test.YtnadmdadcpemnaaGreatRAz
import Derived.Test.YtnadmdadcpemnaaGreatMVOz
import Derived.Test.YtnadmdadcpemnaaGreatMVSz
import Derived.Test.YtnadmdadcpemnaaGreatMYAz
import Derived.Test.YtnadmdadcpemnaaGreatRDz
import Derived.Test.YtnadmdadcpemnaaGreatRFz
import Derived.Test.YtnadmdadcpemnaaGreatMZAz
import Derived.Test.YtnadmdadcpemnaaGreatRPz
import Derived.BigRegion
namespace Go.Proofs.YtnadmdadcpemnaaGreat
open Go.RowKit
set_option linter.unusedVariables false
set_option linter.unusedSimpArgs false
section
variable {key z z':Nat→Nat} {n:Nat}
end
theorem dataAll_any (g:Nat) (C:Cfg) (W R:Nat→Prop) (sb ub eb:Nat) (A:Option Addr) (n c:Nat) (z:Nat→Nat) (hok:C.Ok) (hv:C.Valid) (hn:C.ig=true→n≤9500) (hnc:n≤c) (hz:∀j,j < n→z j < 256):DataAll g C W R sb ub eb A n c z:=by
 cases hig:C.ig
 ·exact dataAll_plain g C W R sb ub eb A n c z hok hv hig hnc hz
 ·exact fun s' l' w' hC h hr hn2 ct W' hct hb=>by
   subst hC
   exact data_ig g s' W R sb l' ub eb W' (h.below hb) hok hv hig ct hct A n c z (by unfold Cfg.least at hn2;rw[hig]at hn2;simpa using hn2) (hn hig) hnc hz (hr.next hb)
end Go.Proofs.YtnadmdadcpemnaaGreat

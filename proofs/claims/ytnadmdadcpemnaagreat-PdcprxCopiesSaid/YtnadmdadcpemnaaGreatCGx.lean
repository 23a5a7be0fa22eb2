import Derived.Test.YtnadmdadcpemnaaGreatMDXx
import Derived.Test.YtnadmdadcpemnaaGreatMDVAx
import Derived.Test.YtnadmdadcpemnaaGreatRAx
import Derived.Test.YtnadmdadcpemnaaGreatMVMx
import Derived.Test.YtnadmdadcpemnaaGreatMVSx
import Derived.Test.YtnadmdadcpemnaaGreatMYAx
import Derived.Test.YtnadmdadcpemnaaGreatRDx
import Derived.Test.YtnadmdadcpemnaaGreatRFx
import Derived.Test.YtnadmdadcpemnaaGreatMZAx
import Derived.Test.YtnadmdadcpemnaaGreatRPx
import Derived.BigRegion
namespace Go.Proofs.YtnadmdadcpemnaaGreat
open Go.RowKit
set_option linter.unusedVariables false
set_option linter.unusedSimpArgs false
section
variable {key z z':Nat→Nat} {n:Nat}
end
theorem dataAll_any (g:Nat) (C:Cfg) (W R:Nat→Prop) (sb ub eb:Nat) (A:Option Addr) (n c:Nat) (z:Nat→Nat) (hok:C.Ok) (hv:C.Valid) (hnc:n≤c) (hz:∀j,j < n→z j < 256):DataAll g C W R sb ub eb A n c z:=by
 cases hig:C.ig
 ·exact dataAll_plain g C W R sb ub eb A n c z hok hv hig hnc hz
 ·exact fun s' l' w' hC h hr hn2 ct W' hct hb=>by
   subst hC
   have h6:6≤n:=by unfold Cfg.least at hn2;rw[hig]at hn2;simpa using hn2
   by_cases hbig:16384 < n-2
   ·exact data_plain g s' W R sb l' ub eb W' (h.below hb) hok hv ct hct A n c z (by omega) (.inr hbig) hnc hz (hr.next hb)
   ·exact data_ig g s' W R sb l' ub eb W' (h.below hb) hok hv hig ct hct A n c z h6 (by omega) hnc hz (hr.next hb)
end Go.Proofs.YtnadmdadcpemnaaGreat

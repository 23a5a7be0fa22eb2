import Derived.Test.YtiiojpnckbglcaaGreatMZMs
import Derived.Test.YtiiojpnckbglcaaGreatDXs
import Derived.Test.YtiiojpnckbglcaaGreatDLs
import Derived.Test.YtiiojpnckbglcaaGreatMVMs
import Derived.Test.YtiiojpnckbglcaaGreatMYHs
import Derived.Test.YtiiojpnckbglcaaGreatMVJs
import Derived.Test.YtiiojpnckbglcaaGreatVAs
import Derived.Test.YtiiojpnckbglcaaGreatMVSs
import Derived.Test.YtiiojpnckbglcaaGreatMYAs
import Derived.Test.YtiiojpnckbglcaaGreatMRLs
import Derived.Test.YtiiojpnckbglcaaGreatMZAs
import Derived.Test.YtiiojpnckbglcaaGreatMCFs
import Derived.Laws.StructEq
import Derived.ChangeKeysEq
import Derived.Laws.Bits64b
import Derived.StillTailTactics
import Derived.BigRegion
import Derived.Deep.MidRow
set_option maxRecDepth 100000
set_option maxHeartbeats 1600000
set_option linter.unusedVariables false
set_option linter.unusedSimpArgs false
namespace Go.Proofs.YtiiojpnckbglcaaGreat
open Go.RowKit
attribute [local go_sem ↓] Go.wp_at_zero Go.wp_at_succ
theorem jr (c:aZ) (w:World):Calls Tryz.prog 9 #[.agg c.arr] w fun e w'=>e=.returned (.bool (decide c.Valid))/\Below w.heap.size w w':=by
 have h0:c.arr[0]? = some (.int .i64 c.b):=c.arr_at (by decide);have h1:c.arr[1]? = some (.int .i64 c.d):=c.arr_at (by decide);have h2:c.arr[37]? = some (.int .i64 c.ds):=c.arr_at (by decide);have h3:c.arr[38]? = some (.int .i64 c.ro):=c.arr_at (by decide);have HV:=Lib.hid (show c.Valid↔(0<=c.b/\c.b<=31/\(c.d=0\/c.d=1)/\0<=c.ds/\c.ds<=1073741824/\0<=c.ro/\c.ro<=1073741824)from Iff.rfl);obtain⟨V,hV⟩:=af (decide c.Valid)
 have HD:=Lib.hid (show V=true↔c.Valid from by rw[hV];exact decide_eq_true_iff);obtain⟨Z,hZ⟩:=af c.arr
 rw[<-hV];rw[<-hZ]at h0 h1 h2 h3 ⊢;obtain⟨b,hb⟩:=af c.b
 obtain⟨d,hd⟩:=af c.d
 obtain⟨ds,hds⟩:=af c.ds
 obtain⟨ro,hro⟩:=af c.ro
 rw[<-hb]at h0 HV;rw[<-hd]at h1 HV;rw[<-hds]at h2 HV;rw[<-hro]at h3 HV;clear hZ hV hb hd hds hro;go_enter Tryz.func9,Tryz.ntmps9;go_upto_region 1 with (fail)
 refine ag (fun W=>ae W w.heap.size 25 Z/\Below w.heap.size w W) ⟨ae.new _ _ _,(Below.refl _ w).alloc ao _⟩ ?_;rintro W1 ⟨b1,b2⟩;have x0:=(b1.cell 0).trans h0;have x1:=(b1.cell 1).trans h1;have x2:=(b1.cell 37).trans h2;have x3:=(b1.cell 38).trans h3;have HB:=Lib.hid b2;clear b1 b2 h0 h1 h2 h3;have hout:∀r:Bool,(r=true↔(0<=b/\b<=31/\(d=0\/d=1)/\0<=ds/\ds<=1073741824/\0<=ro/\ro<=1073741824))->r=V:=fun r hr=>by
  rw[Bool.eq_iff_iff,hr,HD.out,HV.out]
 have HO:=Lib.hid hout;clear hout;by_cases c0:0<=b;rotate_left
 ·go_wp2;go_ret
  exact⟨ak (HO.out _ ⟨fun h=>(by cases h),fun h=>(by omega)⟩),HB.out⟩
 by_cases c1:b<=31;rotate_left
 ·go_wp2;go_ret
  exact⟨ak (HO.out _ ⟨fun h=>(by cases h),fun h=>(by omega)⟩),HB.out⟩
 by_cases c2:d=0\/d=1;rotate_left
 ·have d0:(d == 0)=false:=by simp;exact fun h=>c2 (.inl h)
  have d1:(d == 1)=false:=by simp;exact fun h=>c2 (.inr h)
  have HC2:=Lib.hid c2;clear c2;go_wp2;go_ret
  exact⟨ak (HO.out _ ⟨fun h=>(by cases h),fun h=>(absurd h.2.2.1 HC2.out)⟩),HB.out⟩
 by_cases c3:0<=ds;rotate_left
 ·rcases c2 with rfl | rfl
  ·go_wp2;go_ret
   exact⟨ak (HO.out _ ⟨fun h=>(by cases h),fun h=>(by omega)⟩),HB.out⟩
  ·go_wp2;go_ret
   exact⟨ak (HO.out _ ⟨fun h=>(by cases h),fun h=>(by omega)⟩),HB.out⟩
 by_cases c4:ds<=1073741824;rotate_left
 ·rcases c2 with rfl | rfl
  ·go_wp2;go_ret
   exact⟨ak (HO.out _ ⟨fun h=>(by cases h),fun h=>(by omega)⟩),HB.out⟩
  ·go_wp2;go_ret
   exact⟨ak (HO.out _ ⟨fun h=>(by cases h),fun h=>(by omega)⟩),HB.out⟩
 by_cases c5:0<=ro;rotate_left
 ·rcases c2 with rfl | rfl
  ·go_wp2;go_ret
   exact⟨ak (HO.out _ ⟨fun h=>(by cases h),fun h=>(by omega)⟩),HB.out⟩
  ·go_wp2;go_ret
   exact⟨ak (HO.out _ ⟨fun h=>(by cases h),fun h=>(by omega)⟩),HB.out⟩
 by_cases c6:ro<=1073741824
 ·rcases c2 with rfl | rfl
  ·go_wp2;go_ret
   exact⟨ak (HO.out _ ⟨fun h=>⟨by omega,by omega,by simp,by omega,by omega,by omega,by omega⟩,fun h=>rfl⟩),HB.out⟩
  ·go_wp2;go_ret
   exact⟨ak (HO.out _ ⟨fun h=>⟨by omega,by omega,by simp,by omega,by omega,by omega,by omega⟩,fun h=>rfl⟩),HB.out⟩
 ·rcases c2 with rfl | rfl
  ·go_wp2;go_ret
   exact⟨ak (HO.out _ ⟨fun h=>(by cases h),fun h=>(by omega)⟩),HB.out⟩
  ·go_wp2;go_ret
   exact⟨ak (HO.out _ ⟨fun h=>(by cases h),fun h=>(by omega)⟩),HB.out⟩
theorem sE {w:World} {g:Nat} {t:TypeId} {cs:Array Value} (h:ae w g t cs) (o n:Nat) (hn:o+n<=cs.size):w.there g o n:=fun j hj=>⟨by rw[h.cell,Array.getElem?_eq_getElem (by omega)];rfl,h.frozen _⟩
end Go.Proofs.YtiiojpnckbglcaaGreat
namespace Go.Proofs.YtiiojpnckbglcaaGreat
open Go.RowKit
def zc (L:List SV):Prop:=L.Pairwise fun a b=>a.ct < b.ct
section
variable {cf:aZ} {ms:Nat->Bool} {i:Nat} {out:List SV} {s:RS}
end
section
variable {cf:aZ} {ms:Nat->Bool} {n:Nat} {vs out:List SV} {s:RS}
end
end Go.Proofs.YtiiojpnckbglcaaGreat

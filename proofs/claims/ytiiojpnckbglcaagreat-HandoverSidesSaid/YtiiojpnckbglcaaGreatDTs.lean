import Derived.Test.YtiiojpnckbglcaaGreatDLs
import Derived.Test.YtiiojpnckbglcaaGreatMVMs
import Derived.Test.YtiiojpnckbglcaaGreatMTBs
import Derived.Laws.Bits64b
import Derived.Lib.MinMax
import Derived.Defers
import Derived.DefersIn
import Derived.Recover
import Derived.RecoverIn
import Derived.Deep.RegionHeld3
set_option maxRecDepth 100000
set_option maxHeartbeats 1600000
set_option linter.unusedVariables false
set_option linter.unusedSimpArgs false
namespace Go.Proofs.YtiiojpnckbglcaaGreat
open Go.RowKit
attribute [local go_sem ↓] Go.wp_at_zero Go.wp_at_succ
theorem rm (c:aZ) (w:World):Calls Tryz.prog 90 #[.agg c.arr] w fun e w'=>e=.returned (.bool (decide c.Valid))/\Below w.heap.size w w':=by
 have h0:c.arr[0]? = some (.int .i64 c.b):=c.arr_at (by decide);have h1:c.arr[1]? = some (.int .i64 c.d):=c.arr_at (by decide);have h2:c.arr[37]? = some (.int .i64 c.ds):=c.arr_at (by decide);have h3:c.arr[38]? = some (.int .i64 c.ro):=c.arr_at (by decide);have HV:=Lib.hid (show c.Valid↔(0<=c.b/\c.b<=31/\(c.d=0\/c.d=1)/\0<=c.ds/\c.ds<=1073741824/\0<=c.ro/\c.ro<=1073741824)from Iff.rfl);obtain⟨V,hV⟩:=af (decide c.Valid)
 have HD:=Lib.hid (show V=true↔c.Valid from by rw[hV];exact decide_eq_true_iff);obtain⟨Z,hZ⟩:=af c.arr
 rw[<-hV];rw[<-hZ]at h0 h1 h2 h3 ⊢;obtain⟨b,hb⟩:=af c.b
 obtain⟨d,hd⟩:=af c.d
 obtain⟨ds,hds⟩:=af c.ds
 obtain⟨ro,hro⟩:=af c.ro
 rw[<-hb]at h0 HV;rw[<-hd]at h1 HV;rw[<-hds]at h2 HV;rw[<-hro]at h3 HV;clear hZ hV hb hd hds hro;go_enter Tryz.func90,Tryz.ntmps90;go_upto_region 1 with (fail)
 refine ag (fun W=>ae W w.heap.size 25 Z/\Below w.heap.size w W) ⟨ae.new _ _ _,(Below.refl _ w).alloc ao _⟩ ?_;rintro W1 ⟨b1,b2⟩;have x0:=(b1.cell 0).trans h0;have x1:=(b1.cell 1).trans h1;have x2:=(b1.cell 37).trans h2;have x3:=(b1.cell 38).trans h3;have HB:=Lib.hid b2;clear b1 b2 h0 h1 h2 h3;have hout:∀r:Bool,(r=true↔(0<=b/\b<=31/\(d=0\/d=1)/\0<=ds/\ds<=1073741824/\0<=ro/\ro<=1073741824))->r=V:=fun r hr=>by
  rw[Bool.eq_iff_iff,hr,HD.out,HV.out]
 have HO:=Lib.hid hout;clear hout;by_cases c0:b < 0
 ·go_wp2;go_ret
  exact⟨ak (HO.out _ ⟨fun h=>(by cases h),fun h=>(by omega)⟩),HB.out⟩
 by_cases c1:31 < b
 ·go_wp2;go_ret
  exact⟨ak (HO.out _ ⟨fun h=>(by cases h),fun h=>(by omega)⟩),HB.out⟩
 by_cases c2:d=0\/d=1;rotate_left
 ·have d0:(d != 0)=true:=by simp;omega
  have d1:(d != 1)=true:=by simp;omega
  go_wp2;go_ret
  exact⟨ak (HO.out _ ⟨fun h=>(by cases h),fun h=>(by omega)⟩),HB.out⟩
 have hdd:(d != 0 && d != 1)=false:=by rcases c2 with rfl | rfl<;>rfl
 by_cases c3:0<=ds;rotate_left
 ·rcases c2 with rfl | rfl<;>
  ·go_wp2;go_ret
   exact⟨ak (HO.out _ ⟨fun h=>(by cases h),fun h=>(by omega)⟩),HB.out⟩
 by_cases c4:ds<=1073741824;rotate_left
 ·rcases c2 with rfl | rfl<;>
  ·go_wp2;go_ret
   exact⟨ak (HO.out _ ⟨fun h=>(by cases h),fun h=>(by omega)⟩),HB.out⟩
 by_cases c5:0<=ro;rotate_left
 ·rcases c2 with rfl | rfl<;>
  ·go_wp2;go_ret
   exact⟨ak (HO.out _ ⟨fun h=>(by cases h),fun h=>(by omega)⟩),HB.out⟩
 by_cases c6:ro<=1073741824;rotate_left
 ·rcases c2 with rfl | rfl<;>
  ·go_wp2;go_ret
   exact⟨ak (HO.out _ ⟨fun h=>(by cases h),fun h=>(by omega)⟩),HB.out⟩
 rcases c2 with rfl | rfl<;>
 ·go_wp2;go_ret
  exact⟨ak (HO.out _ ⟨fun h=>⟨by omega,by omega,by simp,by omega,by omega,by omega,by omega⟩,fun h=>rfl⟩),HB.out⟩
theorem cX (w:World):Calls Tryz.prog 92 #[] w fun e w'=>e=.returned (.pointer (some ⟨w.heap.size,0,none⟩))/\Below w.heap.size w w'/\∃t cs,ae w' w.heap.size t cs/\xJ (.cells cs t (0,0)):=by
 go_enter Tryz.func92,Tryz.ntmps92;go_wp2;go_ret
 exact⟨rfl,(Below.refl _ w).alloc ao _,_,_,ae.new _ _ _,⟨_,rfl,rfl⟩⟩
def ls (cf:aZ) (X:Obj):RS:=⟨cf,0,0,0,[],false,0,0,[aw cf.key],X,0⟩
end Go.Proofs.YtiiojpnckbglcaaGreat

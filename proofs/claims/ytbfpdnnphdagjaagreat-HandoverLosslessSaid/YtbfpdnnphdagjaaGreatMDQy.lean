import Derived.Test.YtbfpdnnphdagjaaGreatMDMy
import Derived.Test.YtbfpdnnphdagjaaGreatMTBy
import Derived.Defers
import Derived.DefersIn
import Derived.Recover
import Derived.RecoverIn
import Derived.Deep.RegionHeld3
set_option maxRecDepth 100000
set_option maxHeartbeats 1600000
set_option linter.unusedVariables false
set_option linter.unusedSimpArgs false
namespace Go.Proofs.YtbfpdnnphdagjaaGreat
open Go.RowKit
attribute [local go_sem] Oper.semAt_some
theorem vN {P:Program} {fn:Func} {c₀:Frame} {u':FrameMode} {cs:List Frame} {X:World} {e:Exit} {a:Act} {w1:World} (hq:bodyPost P fn (fun en w'=>en=.returned (.tuple #[])/\w'=X) e a w1) :
  bodyPostS P fn c₀ cs (fun en u w'=>en=.returned (.tuple #[])/\u=u'/\w'=X) e a ({ c₀ with mode:=u' } :: cs) w1:=by
 cases e with
 | normal=>obtain⟨hd,v,hr,h1,h2⟩:=hq;exact⟨hd,_,rfl,v,hr,h1,rfl,h2⟩
 | ret=>obtain⟨hd,v,hr,h1,h2⟩:=hq;exact⟨hd,_,rfl,v,hr,h1,rfl,h2⟩
 | panic c=>obtain⟨hd,h1,h2⟩:=hq;cases h1
 | outgrown=>obtain⟨h1,h2⟩:=hq;cases h1
 | _=>exact hq.elim
theorem n4 (p:Addr) (x e:Int) (older:List PanicEntry) (w:World) (hc:w.cell? p=some (.int .i64 x)) (hz:w.frozen? p=false) :
  CallsDIn Fence.wide 8 Tryz.prog 50 #[.pointer (some p)] (.panicking ({ v:=.iface 30 (.int .i64 e),recovered:=false } :: older)) w fun en u' w'=>
   en=.returned (.tuple #[])/\u'=.panicking ({ v:=.iface 30 (.int .i64 e),recovered:=true } :: older)/\w'=w.setCell p (.int .i64 e):=by
 have hta:∀X:World,(Instr.typeAssert (.iface 30 (.int .i64 e)) 20 30 false).run Tryz.prog X=.ok (.int .i64 e) X:=fun X=>by kernel_rfl
 refine callsDIn_of_wpSIn Tryz.func50 rfl trivial fun c₀ cs hu=>?_;simp only[Tryz.ntmps50,List.size_toArray,List.length_cons,List.length_nil,Nat.reduceAdd,Nat.reduceSub,Array.replicate_succ,Array.replicate_zero,List.push_toArray,List.append_toArray,List.nil_append,List.cons_append];apply wpSIn_seq;apply wpSIn_region;simp[wpOpsSIn,go_sem,recoverD,hu,Exit.thenS];refine wpSIn_of_wpIn rfl (wpIn_wide.2 (wp_mono (Q:=bodyPost Tryz.prog Tryz.f50 (fun en w'=>en=.returned (.tuple #[])/\w'=w.setCell p (.int .i64 e))) ?_ ?_));rotate_left
 ·exact fun e a w1 hq=>vN hq
 have HU:=Lib.hid hu;clear hu;go_wp2;go_end0
 exact⟨rfl,rfl⟩
theorem kf (p:Addr) (w:World) :
  CallsDIn Fence.wide 8 Tryz.prog 50 #[.pointer (some p)] .returning w fun e u' w'=>e=.returned (.tuple #[])/\u'=.returning/\w'=w:=by
 refine callsDIn_of_wpSIn Tryz.func50 rfl trivial fun c₀ cs hu=>?_;simp only[Tryz.ntmps50,List.size_toArray,List.length_cons,List.length_nil,Nat.reduceAdd,Nat.reduceSub,Array.replicate_succ,Array.replicate_zero,List.push_toArray,List.append_toArray,List.nil_append,List.cons_append];apply wpSIn_seq;apply wpSIn_region;simp[wpOpsSIn,go_sem,recoverD,hu,Exit.thenS];refine wpSIn_of_wpIn rfl (wpIn_wide.2 (wp_mono (Q:=bodyPost Tryz.prog Tryz.f50 (fun en w'=>en=.returned (.tuple #[])/\w'=w)) ?_ ?_));rotate_left
 ·have hu2:({ c₀ with mode:=.returning }:Frame)=c₀:=by rw[<-hu]
  intro e a w1 hq;have:=vN (c₀:=c₀) (cs:=cs) (u':=.returning) hq
  rwa [hu2]at this
 have HU:=Lib.hid hu;clear hu;go_wp2;go_end0
 exact⟨rfl,rfl⟩
theorem rM (s:RS):s.stop.C=s.C/\s.stop.dup=s.dup/\s.stop.L=s.L/\s.stop.deliver=s.deliver/\s.stop.next=s.next/\s.stop.now=s.now:=by unfold RS.stop;split<;>exact⟨rfl,rfl,rfl,rfl,rfl,rfl⟩
theorem qm (s:RS):s.start.C=s.C/\s.start.dup=s.dup/\s.start.L=s.L/\s.start.deliver=s.deliver/\s.start.next=s.next/\s.start.now=s.now:=by unfold RS.start;split<;>exact⟨rfl,rfl,rfl,rfl,rfl,rfl⟩
theorem js (s:RS):s.timer.C=s.C/\s.timer.dup=s.dup/\s.timer.L=s.L/\s.timer.deliver=s.deliver/\s.timer.next=s.next/\s.timer.now=s.now:=by
 unfold RS.timer;obtain⟨a1,a2,a3,a4,a5,a6⟩:=qm s.stop;obtain⟨b1,b2,b3,b4,b5,b6⟩:=rM s
 exact⟨a1.trans b1,a2.trans b2,a3.trans b3,a4.trans b4,a5.trans b5,a6.trans b6⟩
theorem mz (l:List SV) (d:Int):(aU l d).1.length+(aU l d).2.1.length=l.length:=by
 have:=congrArg List.length (mK l d)
 rwa [List.length_append]at this
theorem fA (s:RS):s.expire.2.C=s.C/\s.expire.2.dup=s.dup/\s.expire.1.length+s.expire.2.L.length=s.L.length:=by
 unfold RS.expire
 split
 ·exact⟨rfl,rfl,by simp⟩
 ·obtain⟨b1,b2,b3,_⟩:=js s.cut.deliver_.2;refine⟨b1,b2,?_⟩;show(xX s.limit s.L++s.cut.deliver_.1).length+s.cut.deliver_.2.timer.L.length=_;rw[b3];have h1:=mz s.cut.L s.cut.deliver;have h2:(xX s.limit s.L).length+(iG s.limit s.L).length=s.L.length:=by
   unfold xX iG
   induction s.L with
   | nil=>rfl
   | cons e r ih=>
    rw[List.filter_cons,List.filter_cons];by_cases hk:e.ct < s.limit
    ·simp only[hk,decide_true,if_true,Bool.not_true,Bool.false_eq_true,if_false,List.length_cons];omega
    ·simp only[hk,decide_false,Bool.false_eq_true,if_false,Bool.not_false,if_true,List.length_cons];omega
  rw[List.length_append];show _+(aU s.cut.L s.cut.deliver).1.length+(aU s.cut.L s.cut.deliver).2.1.length=_;have h3:s.cut.L=iG s.limit s.L:=rfl;rw[h3]at h1 ⊢;omega
theorem wU (s:RS) (n:Nat) (z:Nat->Nat) (h:(s.take n z).1 ≠ 0):(s.take n z).2.1=false:=by
 revert h
 unfold RS.take
 (repeat' split)<;>simp
theorem zv {W R:Nat->Prop} {w w2 w3:World} {g:Nat} {s:RS} {sb:Nat} {l:List SE} {ub eb:Nat} (h:aN w2 g s W R sb l ub eb) {F:Nat->Prop} (hk:aa F w2 w3) (hF:∀k,F k->w.heap.size<=k) (hW:(∀k,W k->k < w.heap.size)/\∀k,R k->k < w.heap.size):aN w3 g s W R sb l ub eb:=
 h.keepF hk (fun k hf=>⟨fun hw=>by have:=hW.1 k hw;have:=hF k hf;omega,fun hw=>by have:=hW.2 k hw;have:=hF k hf;omega⟩)
theorem wN (s:RS) (n:Nat) (z:Nat->Nat):(s.take n z).2.2.C=s.C:=by
 unfold RS.take
 (repeat' split)<;>rfl
def nU (g:Nat) (C:ax) (W R:Nat->Prop) (sb ub eb:Nat) (A:Option Addr) (n c:Nat) (z:Nat->Nat):Prop:=
 ∀(s':RS) (l':List SE) (w':World),s'.C=C->aN w' g s' W R sb l' ub eb->aD w' w'.heap.size A n (fun j=>.int .u8 ((z j:Nat):Int))->qX g C A n c z w'
theorem lX (g:Nat) (C:ax) (W R:Nat->Prop) (sb ub eb:Nat) (A:Option Addr) (n c:Nat) (z:Nat->Nat) (hok:C.Ok) (hv:C.Valid) (hig:C.ig=false) (hnc:n<=c) (hz:∀j,j < n->z j < 256):nU g C W R sb ub eb A n c z:=
 fun s' l' w' hC h hr hn ct W' hct hb=>by
  subst hC
  exact ky g s' W R sb l' ub eb W' (h.below hb) hok hv ct hct A n c z (by unfold ax.least at hn;rw[hig]at hn;simpa using hn) (.inl hig) hnc hz (hr.next hb)
def zr (g:Nat) (s:RS) (W R:Nat->Prop) (sb ub eb:Nat) (t:Int) (n:Nat) (z:Nat->Nat) (w:World) (e:Ending) (w':World):Prop:=
 ∃R' l' A c lo,e=.returned (.tuple #[.slice A lo.length c,.int .i64 (s.receive t n z).2.1])/\ze w' w.heap.size A c lo/\lo.map (·.v)=(s.receive t n z).1/\(∀x,x∈lo->bZ w' R' x.A x.v.n x.c x.v.z)/\
  aN w' g (s.receive t n z).2.2 W R' sb l' ub eb/\(∀k,R' k->R k\/w.heap.size<=k)/\(∀k,R k->R' k)/\aa W w w'
def xl (w w7:World) (w2s:Nat) (W R':Nat->Prop) (ob bx:Nat) (lo pre:List SE) (V:World):Prop:=
 ∃A c,ae V ob 36 #[.slice A (lo++pre).length c]/\SL V 41 1 A (lo++pre).length c ((lo++pre).map SE.val)/\(∀a,A=some a->w2s<=a.block/\a.block ≠ bx/\¬R' a.block)/\aa W w V/\ae V (ob+1) 30 #[.int .i64 0]/\aa (fun k=>¬R' k) w7 V
theorem sX (w w7:World) (w2s:Nat) (W R':Nat->Prop) (ob bx:Nat) (lo:List SE) (B:Nat) (h1:w.heap.size<=B) (h2:∀k,R' k->k < B):cX B (xl w w7 w2s W R' ob bx lo):=fun pre V V' row ⟨A,c,hO,hS,hA,hK,hE,hJ⟩ hg hr=>by
 have hkf:aa (fun k=>row=some k) V V':=⟨hg.os,hg.tape,hg.output,hg.size,fun k hk hn=>hg.block k hk (fun e=>hn e.symm)⟩
 refine⟨A,c,hkf.blk hO (fun e=>?_),hS.keepF hkf (fun a ha e=>?_),hA,hK.trans hkf (fun k hk e=>?_),hkf.blk hE (fun e=>?_),hJ.trans hkf (fun k hk e hr'=>?_)⟩
 ·obtain⟨_,o,ho,hc,_⟩:=hr _ e;rw[show V.heap[ob]? = _ from hO]at ho;cases ho;cases hc
 ·obtain⟨_,o,ho,hc,_⟩:=hr _ e;obtain⟨cur,hcur⟩:=hS.obj ha;rw[hcur]at ho;cases ho;cases hc
 ·have:=(hr _ e).1;omega
 ·obtain⟨_,o,ho,hc,_⟩:=hr _ e;rw[show V.heap[ob+1]? = _ from hE]at ho;cases ho;cases hc
 ·have:=(hr _ e).1;have:=h2 _ hr';omega
theorem tl {w w7:World} {w2s:Nat} {W R':Nat->Prop} {ob bx:Nat} {lo pre:List SE} {V V':World} {F:Nat->Prop} (h:xl w w7 w2s W R' ob bx lo pre V) (hk:aa F V V') (h1:∀k,F k->k < w2s/\k ≠ ob/\k ≠ ob+1/\W k/\¬R' k):xl w w7 w2s W R' ob bx lo pre V':=by
 obtain⟨A,c,hO,hS,hA,hK,hE,hJ⟩:=h
 exact⟨A,c,hk.blk hO (fun e=>(h1 _ e).2.1 rfl),hS.keepF hk (fun a ha e=>by have:=(hA a ha).1;have:=(h1 _ e).1;omega),hA,hK.trans hk (fun k _ e=>(h1 k e).2.2.2.1),hk.blk hE (fun e=>(h1 _ e).2.2.1 rfl),hJ.trans hk (fun k _ e=>(h1 k e).2.2.2.2)⟩
theorem oZ {g:Nat} {s s7:RS} {W R R':Nat->Prop} {sb ub eb:Nat} {t:Int} {n:Nat} {z:Nat->Nat} {w w4 w7 w9:World} {ob w2s:Nat} {x1:List SV} {ec:Int} {A1:Option Addr} {c1:Nat} {lo1 l7:List SE}
  (hX:s.receive t n z=(x1,ec,s7)) (hob:ob=w.heap.size) (hW:(∀k,W k->k < w.heap.size)/\∀k,R k->k < w.heap.size) (hdis:∀k,W k->R k->False) (hm:lo1.map (·.v)=x1) (h24:ob+1 < w2s/\w2s<=w4.heap.size) (hM4:ze w4 w2s A1 c1 lo1) (hP4:∀x,x∈lo1->bZ w4 R x.A x.v.n x.c x.v.z)
  (hK4:aa W w w4) (hT7:aN w7 g s7 W R' sb l7 ub eb) (hR1:∀k,R' k->R k\/w4.heap.size<=k) (hR2:∀k,R k->R' k) (hk7:aa W w4 w7) (F9:aa (fun k=>k=ob\/k=ob+1) w7 w9) :
  zr g s W R sb ub eb t n z w (.returned (.tuple #[.slice A1 lo1.length c1,.int .i64 ec])) w9:=by
 have hz4:=hK4.size;have hnR:∀k,(k=ob\/k=ob+1)->¬R' k:=fun k hk hr=>by
  rcases hR1 k hr with h | h
  ·have:=hW.2 k h;omega
  ·omega
 refine⟨R',l7,A1,c1,lo1,by rw[hX],⟨(hM4.1.keepF hk7 (fun a ha hw=>by have:=hM4.2 a ha;have:=hW.1 _ hw;omega)).keepF F9 (fun a ha hf=>by have:=hM4.2 a ha;omega),fun a ha=>by have:=hM4.2 a ha;omega⟩,by rw[hX];exact hm,fun x hx=>?_,?_,fun k hr=>?_,hR2,?_⟩
 ·exact(((hP4 x hx).keep hk7 (fun k hw hr=>hdis k hw hr)).mono hR2).keep F9 hnR
 ·rw[hX]
  exact hT7.keepF F9 (fun k hk=>⟨fun hw=>by have:=hW.1 k hw;omega,hnR k hk⟩)
 ·rcases hR1 k hr with h | h
  ·exact .inl h
  ·exact .inr (by omega)
 ·exact(hK4.trans hk7 (fun _ _ h=>h)).trans F9 (fun k hk e=>by omega)
end Go.Proofs.YtbfpdnnphdagjaaGreat
namespace Go.Proofs.YtbfpdnnphdagjaaGreat
open Go.RowKit
attribute [local go_sem ↓] Go.wp_at_zero Go.wp_at_succ
theorem tU (c:ax) (w:World):Calls Tryz.prog 88 #[.agg c.arr] w fun e w'=>e=.returned (.bool (decide c.Valid))/\Below w.heap.size w w':=by
 have h0:c.arr[0]? = some (.int .i64 c.b):=c.arr_at (by decide);have h1:c.arr[1]? = some (.int .i64 c.d):=c.arr_at (by decide);have h2:c.arr[37]? = some (.int .i64 c.ds):=c.arr_at (by decide);have h3:c.arr[38]? = some (.int .i64 c.ro):=c.arr_at (by decide);have HV:=Lib.hid (show c.Valid↔(0<=c.b/\c.b<=31/\(c.d=0\/c.d=1)/\0<=c.ds/\c.ds<=1073741824/\0<=c.ro/\c.ro<=1073741824)from Iff.rfl);obtain⟨V,hV⟩:=af (decide c.Valid)
 have HD:=Lib.hid (show V=true↔c.Valid from by rw[hV];exact decide_eq_true_iff);obtain⟨Z,hZ⟩:=af c.arr
 rw[<-hV];rw[<-hZ]at h0 h1 h2 h3 ⊢;obtain⟨b,hb⟩:=af c.b
 obtain⟨d,hd⟩:=af c.d
 obtain⟨ds,hds⟩:=af c.ds
 obtain⟨ro,hro⟩:=af c.ro
 rw[<-hb]at h0 HV;rw[<-hd]at h1 HV;rw[<-hds]at h2 HV;rw[<-hro]at h3 HV;clear hZ hV hb hd hds hro;go_enter Tryz.func88,Tryz.ntmps88;go_upto_region 1 with (fail)
 refine ah (fun W=>ae W w.heap.size 25 Z/\Below w.heap.size w W) ⟨ae.new _ _ _,(Below.refl _ w).alloc ay _⟩ ?_;rintro W1 ⟨b1,b2⟩;have x0:=(b1.cell 0).trans h0;have x1:=(b1.cell 1).trans h1;have x2:=(b1.cell 37).trans h2;have x3:=(b1.cell 38).trans h3;have HB:=Lib.hid b2;clear b1 b2 h0 h1 h2 h3;have hout:∀r:Bool,(r=true↔(0<=b/\b<=31/\(d=0\/d=1)/\0<=ds/\ds<=1073741824/\0<=ro/\ro<=1073741824))->r=V:=fun r hr=>by
  rw[Bool.eq_iff_iff,hr,HD.out,HV.out]
 have HO:=Lib.hid hout;clear hout;by_cases c0:b < 0
 ·go_wp2;go_ret
  exact⟨aw (HO.out _ ⟨fun h=>(by cases h),fun h=>(by omega)⟩),HB.out⟩
 by_cases c1:31 < b
 ·go_wp2;go_ret
  exact⟨aw (HO.out _ ⟨fun h=>(by cases h),fun h=>(by omega)⟩),HB.out⟩
 by_cases c2:d=0\/d=1;rotate_left
 ·have d0:(d != 0)=true:=by simp;omega
  have d1:(d != 1)=true:=by simp;omega
  go_wp2;go_ret
  exact⟨aw (HO.out _ ⟨fun h=>(by cases h),fun h=>(by omega)⟩),HB.out⟩
 have hdd:(d != 0 && d != 1)=false:=by rcases c2 with rfl | rfl<;>rfl
 by_cases c3:0<=ds;rotate_left
 ·rcases c2 with rfl | rfl<;>
  ·go_wp2;go_ret
   exact⟨aw (HO.out _ ⟨fun h=>(by cases h),fun h=>(by omega)⟩),HB.out⟩
 by_cases c4:ds<=1073741824;rotate_left
 ·rcases c2 with rfl | rfl<;>
  ·go_wp2;go_ret
   exact⟨aw (HO.out _ ⟨fun h=>(by cases h),fun h=>(by omega)⟩),HB.out⟩
 by_cases c5:0<=ro;rotate_left
 ·rcases c2 with rfl | rfl<;>
  ·go_wp2;go_ret
   exact⟨aw (HO.out _ ⟨fun h=>(by cases h),fun h=>(by omega)⟩),HB.out⟩
 by_cases c6:ro<=1073741824;rotate_left
 ·rcases c2 with rfl | rfl<;>
  ·go_wp2;go_ret
   exact⟨aw (HO.out _ ⟨fun h=>(by cases h),fun h=>(by omega)⟩),HB.out⟩
 rcases c2 with rfl | rfl<;>
 ·go_wp2;go_ret
  exact⟨aw (HO.out _ ⟨fun h=>⟨by omega,by omega,by simp,by omega,by omega,by omega,by omega⟩,fun h=>rfl⟩),HB.out⟩
theorem df (w:World):Calls Tryz.prog 81 #[] w fun e w'=>e=.returned (.pointer (some ⟨w.heap.size,0,none⟩))/\Below w.heap.size w w'/\∃t cs,ae w' w.heap.size t cs/\wo (.cells cs t (0,0)):=by
 go_enter Tryz.func81,Tryz.ntmps81;go_wp2;go_ret
 exact⟨rfl,(Below.refl _ w).alloc ay _,_,_,ae.new _ _ _,⟨_,rfl,rfl⟩⟩
def eZ (cf:ax) (X:Obj):RS:=⟨cf,0,0,0,[],false,0,0,[aj cf.key],X,0⟩
end Go.Proofs.YtbfpdnnphdagjaaGreat

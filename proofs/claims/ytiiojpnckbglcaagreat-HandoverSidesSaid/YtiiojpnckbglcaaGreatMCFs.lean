import Derived.Test.YtiiojpnckbglcaaGreatDLs
import Derived.Test.YtiiojpnckbglcaaGreatMVMs
import Derived.Test.YtiiojpnckbglcaaGreatMTBs
import Derived.Test.YtiiojpnckbglcaaGreatDTs
import Derived.Laws.Bits64b
import Derived.Lib.MinMax
import Derived.Defers
import Derived.DefersIn
import Derived.Recover
import Derived.RecoverIn
import Derived.Test.YtiiojpnckbglcaaGreatB1s
set_option maxRecDepth 100000
set_option maxHeartbeats 12800000
set_option linter.unusedVariables false
set_option linter.unusedSimpArgs false
namespace Go.Proofs.YtiiojpnckbglcaaGreat
open Go.RowKit
attribute [local go_sem ↓] Go.wp_at_zero Go.wp_at_succ
def ga (d:Int) (ct:Nat->Int) (k:Nat):Int:=if k=0 then d else ct (k-1)
theorem ei (d:Int) (ct:Nat->Int) (k:Nat):ga d ct (k+1)=ct k:=rfl
def pU (d nx:Int) (ct:Nat->Int) (pn:Nat->Nat) (k:Nat):Prop:=ga d ct k < ct k/\ct k < nx/\1<=pn k/\pn k<=9000
def xC (d nx:Int):Prop:=d<=nx/\nx<=4294967296/\nx-d<=2048
def uf (d nx:Int) (m:Nat) (ct:Nat->Int):Prop:=nx=d\/(ga d ct m=nx-1/\d < ga d ct m)
def lL (d nx:Int) (m:Nat) (ct:Nat->Int) (pn:Nat->Nat):Prop:=xC d nx/\(∀k,k < m->pU d nx ct pn k)/\uf d nx m ct
theorem sM (A:Option Addr) (m c:Nat) (d nx:Int) (ct:Nat->Int) (PA:Nat->Option Addr) (pn pc:Nat->Nat) (z:Nat->Nat->Int) (w:World) (hd:0<=d) (hm:m<=maxLen) (h:fC w A m ct PA pn pc z) (hw:lL d nx m ct pn) :
  Calls Tryz.prog 91 #[.agg #[.int .u64 d,.int .u64 nx,.slice A m c]] w fun e w'=>e=.returned (.bool true)/\Below w.heap.size w w':=by
 unfold maxLen at hm;obtain⟨⟨h1,h2,h3⟩,h4,h5⟩:=hw;have HC:=zh h;have HE:=zh h4;have HT:=zh h5;have t1:¬nx < d:=by omega
 have t2:¬(4294967296:Int) < nx:=by omega
 have t3:¬(2048:Int) < nx-d:=by omega
 have t0:0<=nx-d:=by omega
 have tw:IntKind.u64.wrap (nx-d)=nx-d:=by simp[IntKind.wrap_u64];omega
 clear h h4 h5;go_enter Tryz.func91,Tryz.ntmps91;go_upto_region 1 with (fail)
 refine ag (fun W=>ae W w.heap.size 82 #[.int .u64 d,.int .u64 nx,.slice A m c]/\Below w.heap.size w W) ⟨ae.new _ _ _,(Below.refl _ w).alloc ao _⟩ ?_;rintro W1 ⟨b1,b2⟩;obtain⟨xb,hxb⟩:=af w.heap.size
 rw[<-hxb]at b1 ⊢;have HX:=zh hxb;have x0:=b1.cell 0;have x1:=b1.cell 1;have x2:=b1.cell 2;simp at x0 x1 x2;have HB:=zh b1;have HBB:=zh (show Below w.heap.size w W1 from by exact b2);clear b1 b2 hxb;go_wp2;go_loopw [3,30] (fun v3 v30 wr=>∃k:Nat,k<=m/\v30=.int .i64 k/\v3=.int .u64 (ga d ct k)/\Below W1.heap.size W1 wr) (fun _ v30 _=>m-(intOf v30).toNat)
 case atStart=>exact⟨0,by omega,rfl,rfl,Below.refl _ _⟩
 case round=>
  obtain⟨k,hk,rfl,rfl,hBr⟩:=hrel;have BR:=zh hBr;have XR:=HB.out.below hBr HB.out.lt;have y0:=XR.cell 0;have y1:=XR.cell 1;simp at y0 y1;have hxl:xb < wr.heap.size:=XR.lt;have hxn:¬xb=wr.heap.size:=by omega
  clear hBr XR;by_cases hlt:k < m
  ·obtain⟨e1,e2,e3,e4⟩:=HE.out k hlt;obtain⟨lb,lo,rfl,hlb,hlc⟩:=HC.out.at_ (by omega);obtain⟨c0,c1⟩:=hlc k hlt;have q0:wr.cell? ⟨lb,lo+k*2,none⟩=some (.int .u32 (ct k)):=(BR.out.cell (p:=⟨lb,lo+k*2,none⟩) (bg hlb HBB.out.size)).trans ((HBB.out.cell (p:=⟨lb,lo+k*2,none⟩) hlb).trans c0);have q1:wr.cell? ⟨lb,lo+k*2+1,none⟩=some (.slice (PA k) (pn k) (pc k)):=(BR.out.cell (p:=⟨lb,lo+k*2+1,none⟩) (bg hlb HBB.out.size)).trans ((HBB.out.cell (p:=⟨lb,lo+k*2+1,none⟩) hlb).trans c1);obtain⟨r0,r1⟩:=HC.out.rng k hlt;have hpn:=HC.out.len k hlt;have HLS:=zh (ei d ct k);obtain⟨x,hx⟩:=af (ct k)
   obtain⟨q,hq⟩:=af (pn k)
   obtain⟨la,hla⟩:=af (ga d ct k)
   have k0:(0:Int)<=(k:Int):=by omega
   have k1:(k:Int) < (m:Int):=by omega
   rw[<-hx]at e1 e2 r0 r1 q0 HLS;rw[<-hq]at e3 e4 q1 hpn;rw[<-hla]at e1 ⊢;have s1:¬x<=la:=by omega
   have s2:¬nx<=x:=by omega
   have s3:¬((q:Int) < 1):=by omega
   have s4:¬((9000:Int) < (q:Int)):=by omega
   have s5:la < x:=by omega
   have sd1:decide (x<=la)=false:=by simpa using s1
   have sd2:decide (nx<=x)=false:=by simpa using s2
   have B2:=zh (fun o:Obj=>BR.out.alloc BR.out.size o);clear hx hq hla hlc c0 c1;go_wp2;go_roundw
   case rel=>first | exact⟨k+1,by omega,by go_num,by rw[HLS.out],B2.out _⟩ | ((repeat apply Exists.intro);exact⟨⟨k+1,by omega,by go_num,by rw[HLS.out],B2.out _⟩,rfl⟩)
   case measure=>simp[intOf];omega
  ·obtain rfl:k=m:=by omega
   have HTT:=HT.out;unfold uf at HTT;obtain⟨la,hla⟩:=af (ga d ct k)
   rw[<-hla]at HTT ⊢;clear hla;by_cases s0:nx=d
   ·clear HTT;subst s0;go_wp2;go_ret
    exact⟨rfl,HBB.out.trans (BR.out.mono HBB.out.size)⟩
   ·obtain⟨s1,s2⟩:la=nx-1/\d < la:=by rcases HTT with h | h;exact absurd h s0;exact h
    have s3:(nx == d)=false:=by simpa using s0
    have s4:IntKind.u64.wrap (nx-1)=nx-1:=by simp[IntKind.wrap_u64];omega
    have s5:(la == nx-1)=true:=by simpa using s1
    clear HTT s1;go_wp2;go_ret
    exact⟨rfl,HBB.out.trans (BR.out.mono HBB.out.size)⟩
def gA (cf:aZ) (X:Obj) (d nx:Int) (L:List SV):RS:=⟨cf,0,d,nx,L,false,0,0,[aw cf.key],X,0⟩
def xM (cf:aZ) (d nx:Int) (B:Nat) (w:World) (v:Value) (W:World):Prop:=
 ∃g mS mU eb X,v=.pointer (some ⟨g,0,none⟩)/\eI W g (gA cf X d nx []) (fun k=>k=g\/k=mS\/k=mU\/k=eb) (fun _=>False) mS [] mU eb/\B<=g/\B<=mS/\B<=mU/\B<=eb/\Below B w W
theorem mw (cf:aZ) (d nx:Int) (hdn:0<=d/\d<=nx/\nx<=4294967296) (W:World) (g mS mU eb:Nat) (t:TypeId) (cs:Array Value) (hB:ae W g 120 (mf cf.arr 0 d nx mS false 0 0 mU eb 0)) (hS:SM W mS []) (hU:UK W mU [aw cf.key]) (hC:ae W eb t cs) (hCX:Hid (xJ (.cells cs t (0,0)))) (h1:eb ≠ g) (h2:mS ≠ mU) :
  eI W g (gA cf (.cells cs t (0,0)) d nx []) (fun k=>k=g\/k=mS\/k=mU\/k=eb) (fun _=>False) mS [] mU eb:=by
 have e1:eb ≠ mS:=fun e=>by
  obtain⟨es,c,h,_⟩:=hS;rw[<-e,show W.heap[eb]? = _ from hC]at h;cases h
 have e2:eb ≠ mU:=fun e=>by
  obtain⟨es,c,h,_⟩:=hU;rw[<-e,show W.heap[eb]? = _ from hC]at h;cases h
 exact⟨hB,rfl,hS,List.Pairwise.nil,fun e he=>(by cases he),hU,hC,fun e he=>(by cases he),
  ⟨by show(0:Int)<=0/\(0:Int) < 1073741824;decide,⟨hdn.1,hdn.2.1⟩,hdn.2.2,⟨Int.le_refl _,Int.le_trans hdn.1 hdn.2.1⟩,by show(0:Int)<=0/\(0:Int)<=2147483648;decide,by show(0:Int)<=0/\(0:Int) < 4611686018427387904;decide⟩,
  .inl rfl,.inr (.inl rfl),.inr (.inr (.inl rfl)),.inr (.inr (.inr rfl)),h1,e1,e2,h2,fun k _ hr=>hr,fun k hk=>(by
   rcases hk with rfl | rfl | rfl | rfl
   ·exact hB.lt
   ·exact hS.lt
   ·exact hU.lt
   ·exact hC.lt),fun k hr=>hr.elim,fun _=>hCX.out⟩
def tR (ct:Nat->Int) (pn:Nat->Nat) (z:Nat->Nat->Int) (k:Nat):SV:=⟨ct k,pn k,z k⟩
def gt (ct:Nat->Int) (pn:Nat->Nat) (z:Nat->Nat->Int) (m:Nat):List SV:=(List.range m).map (tR ct pn z)
def lS (cf:aZ) (d nx:Int) (L:List SV) (w:World) (e:Ending) (w':World):Prop:=
 ∃g mS mU eb X l R,e=.returned (.tuple #[.pointer (some ⟨g,0,none⟩),.int .i64 0])/\eI w' g (gA cf X d nx L) (fun k=>k=g\/k=mS\/k=mU\/k=eb) R mS l mU eb/\w.heap.size<=g/\w.heap.size<=mS/\w.heap.size<=mU/\w.heap.size<=eb/\(∀k,R k->w.heap.size<=k)/\Below w.heap.size w w'
theorem nD (x:SV):∀(l:List SV),(∀y,y∈l->y.ct < x.ct)->rD x l=l++[x]
 | [],_=>rfl
 | y :: r,h=>by
  have h1:=h y (by simp);show(if x.ct < y.ct then x :: y :: r else y :: rD x r)=_;rw[if_neg (by omega),nD x r (fun z hz=>h z (by simp[hz]))]
  rfl
theorem kE {d nx:Int} {m:Nat} {ct:Nat->Int} {pn:Nat->Nat} (hw:lL d nx m ct pn):∀k,k < m->(d < ct k/\ct k < nx/\1<=pn k/\pn k<=9000)/\∀j,j < k->ct j < ct k
 | 0,h=>by
  have h1:=hw.2.1 0 h;unfold pU ga at h1;rw[if_pos rfl]at h1
  exact⟨h1,fun j hj=>by omega⟩
 | k+1,h=>by
  have h1:=hw.2.1 (k+1) h;have h2:=kE hw k (by omega);unfold pU at h1;rw[ei]at h1;refine⟨⟨by omega,h1.2⟩,fun j hj=>?_⟩;by_cases e:j=k
  ·rw[e];exact h1.1
  ·have:=h2.2 j (by omega);omega
theorem sO (ct:Nat->Int) (pn:Nat->Nat) (z:Nat->Nat->Int) (k:Nat):gt ct pn z (k+1)=gt ct pn z k++[tR ct pn z k]:=by
 unfold gt;rw[List.range_succ,List.map_append]
 rfl
theorem js (cf:aZ) (w:World) (hcv:cf.Valid) (A:Option Addr) (m c:Nat) (d nx:Int) (ct:Nat->Int) (PA:Nat->Option Addr) (pn pc:Nat->Nat) (z:Nat->Nat->Int) (hd0:0<=d) (hm:m<=maxLen) (h:fC w A m ct PA pn pc z) (hw:lL d nx m ct pn) :
  Calls Tryz.prog 59 #[.agg cf.arr,.agg #[.int .u64 d,.int .u64 nx,.slice A m c]] w (lS cf d nx (gt ct pn z m) w):=by
 have HV:=zh (fun W=>rm cf W);have HW:=zh (fun W (hb:Below w.heap.size w W)=>sM A m c d nx ct PA pn pc z W hd0 hm (h.below hb) hw);have HC:=zh h;have HWH:=zh hw;have HD0:=zh (show 0<=d/\d<=nx/\nx<=4294967296 from ⟨hd0,hw.1.1,hw.1.2.1⟩);have HM:=zh hm;have hd:decide cf.Valid=true:=decide_eq_true hcv;rw[hd]at HV;have HS:Hid ((Tryz.prog.info? 25).map (·.size)=some cf.arr.size):=zh (by rw[cf.arr_size];exact aM);have HKR0:=zh (show ∀j,j < 16->cf.arr[2+j]? = (aw cf.key)[j]? from fun j hj=>by
  rw[cf.arr_at (by omega),qR _ j hj];unfold aZ.cell;rw[if_neg (by omega),if_neg (by omega),if_pos (by omega),show 2+j-2=j by omega])
 have HZE:=zh (iR cf);obtain⟨Z,hZ⟩:=af cf.arr
 rw[<-hZ]at HS HV HKR0 HZE ⊢;have HZZ:=zh hZ;have HU:=zh Tryz.underlying25;have HUK:=zh Tryz.underlying23;have hmm:=@run_makeMap Tryz.prog;clear hcv hd hZ h hw hd0 hm;go_enter Tryz.func59,Tryz.ntmps59;go_upto_region 1 with (fail)
 refine ag (fun W=>ae W w.heap.size 25 Z/\ae W (w.heap.size+1) 82 #[.int .u64 d,.int .u64 nx,.slice A m c]/\Below w.heap.size w W) ⟨(ae.new _ _ _).alloc _,az _ _ _ _ (by simp),((Below.refl _ w).alloc ao _).alloc (by simp) _⟩ ?_;rintro W1 ⟨b1,b2,b3⟩;have B1:=zh b1;have B2:=zh b2;have B3:=zh b3;clear b1 b2 b3;go_upto_region 3 with (first
  | (refine wpList_load_row rfl _ _ rfl w.heap.size rfl 25 Z (0,0) _ B1.out HU.out rfl HS.out ?_)
  | (go_at_call 90;refine(HV.out _).mono ?_;rintro e w2 ⟨rfl,hB⟩;have E2:=zh hB;have D2:=zh (av B3.out hB);have x0:=(B2.out.below hB B2.out.lt).cell 0;have x1:=(B2.out.below hB B2.out.lt).cell 1;have x2:=(B2.out.below hB B2.out.lt).cell 2;simp at x0 x1 x2;clear hB)
  | (go_at_call 91;refine(HW.out _ D2.out).mono ?_;rintro e w3 ⟨rfl,hB⟩;have E3:=zh (av E2.out hB);have D3:=zh (av D2.out hB);clear hB))
 have BZ:=zh (B1.out.below E3.out B1.out.lt);have BS:=zh (B2.out.below E3.out B2.out.lt);obtain⟨zb,hzb⟩:=af w.heap.size
 obtain⟨Bn,hBn⟩:=af w3.heap.size
 rw[<-hzb]at BZ BS x0 x1 x2 ⊢;have HZB:=zh hzb;have hzl:zb+1 < Bn:=by rw[hBn];exact BS.out.lt
 have hbw:w.heap.size<=Bn:=by rw[hBn];exact D3.out.size
 have HZR:=zh (show ∀W,Below Bn w3 W->W.rangeAt zb 0 (eG cf).toList from fun W hW=>((BZ.out.below hW (by omega)).range _ (by rw[HZE.out])));have HKR:=zh (show ∀W,Below Bn w3 W->W.rangeAt zb 2 (aw cf.key).toList from fun W hW j v hv=>by
  have hj:j < 16:=by have:=(List.getElem?_eq_some_iff.1 hv).1;simpa[aw]using this
  rw[(BZ.out.below hW (by omega)).cell (2+j),HKR0.out j hj];simpa using hv)
 have HSR:=zh (show ∀W,Below Bn w3 W->W.cell? ⟨zb+1,0,none⟩=some (.int .u64 d)/\W.cell? ⟨zb+1,1,none⟩=some (.int .u64 nx)/\W.cell? ⟨zb+1,2,none⟩=some (.slice A m c)from fun W hW=>⟨(BS.out.below hW hzl).cell 0,(BS.out.below hW hzl).cell 1,(BS.out.below hW hzl).cell 2⟩);have HS39:Hid ((Tryz.prog.info? 25).map (·.size)=some (eG cf).toList.length):=zh aM;have HS16:Hid ((Tryz.prog.info? 23).map (·.size)=some (aw cf.key).toList.length):=zh (by kernel_rfl);clear x0 x1 x2 hzb;go_cut [6]from 17 to 29 (fun v wx=>xM cf d nx Bn w3 v wx)
 case first=>
  obtain⟨w0,hw0⟩:=af w3.drew
  have hb0:Below Bn w3 w0:=by rw[hw0,hBn];exact(Below.refl _ w3).drew
  have hz0:Bn<=w0.heap.size:=by rw[hw0,hBn];exact Nat.le_refl _
  refine wp_region_held_drew (S:=fun w'=>Below Bn w3 w') (by kernel_rfl) (by rw[<-hw0];exact hb0) (fun hHeld=>?_);rw[<-hw0];clear hw0 hHeld;have hHeld:=hb0;refine' ed (i:=0) (x:=some 17) (v:=_) rfl (yieldsIf_load_mid (by rfl) _ _ rfl zb 0 rfl (eG cf).toList _ (fun w h=>HZR.out w h) HU.out rfl HS39.out) ?_;refine bF (i:=1) (x:=some 18) (v:=.pointer (some ⟨zb+1,0,none⟩)) rfl ?_;refine ed (i:=2) (x:=some 19) (v:=.int .u64 d) rfl (.inl ⟨by rfl,fun W hW=>(by obtain⟨u0,u1,u2⟩:=HSR.out W hW;go_simp)⟩) ?_;refine bF (i:=3) (x:=some 20) (v:=.pointer (some ⟨zb+1,1,none⟩)) rfl ?_;refine ed (i:=4) (x:=some 21) (v:=.int .u64 nx) rfl (.inl ⟨by rfl,fun W hW=>(by obtain⟨u0,u1,u2⟩:=HSR.out W hW;go_simp)⟩) ?_;refine bF (i:=7) (x:=some 24) (v:=.pointer (some ⟨zb,2,none⟩)) rfl ?_;refine' ed (i:=8) (x:=some 25) (v:=_) rfl (yieldsIf_load_mid (by rfl) _ _ rfl zb 2 rfl (aw cf.key).toList _ (fun w h=>HKR.out w h) HUK.out rfl HS16.out) ?_;refine wpAnyH_ready (rs:=[5,6,11]) (by kernel_rfl) (by simp) ?_;refine AllReadyH.cons (o:=⟨some 22,_,_,_,_,_⟩) rfl (fun K hK=>?_) (AllReadyH.cons (o:=⟨some 23,_,_,_,_,_⟩) rfl (fun K hK=>?_) (AllReadyH.cons (o:=⟨some 27,_,_,_,_,_⟩) rfl (fun K hK=>?_) AllReadyH.nil))
  focus
   rw[if_pos (by rfl)];go_simp;obtain⟨w1',hv⟩:=af (w0.alloc (.map #[] 0))
   obtain⟨mS,hb⟩:=af w0.heap.size
   have hH2:Below Bn w3 w1':=by rw[hv];exact hHeld.alloc hz0 _
   have hz1:Bn<=w1'.heap.size:=by rw[hv,World.size_alloc];omega
   have hbk:Below w0.heap.size w0 w1':=by rw[hv];exact bM _
   have hS:SM w1' mS []:=by rw[hv,hb];exact SM.made _
   have hSl:Bn<=mS:=by omega
   rw[<-hv,<-hb];clear hv hb hbk;refine hK.out _ _ hH2 (fun hHeld=>?_);clear hK K hH2
   try simp only[Act.put,qa,qb,qc]
   refine wpAnyH_ready (rs:=[6,11]) (by kernel_rfl) (by simp) ?_;refine AllReadyH.cons (o:=⟨some 23,_,_,_,_,_⟩) rfl (fun K hK=>?_) (AllReadyH.cons (o:=⟨some 27,_,_,_,_,_⟩) rfl (fun K hK=>?_) AllReadyH.nil)
   focus
    rw[if_pos (by rfl)];go_simp;obtain⟨w2',hv⟩:=af (w1'.alloc (.map #[] 0))
    obtain⟨mU,hb⟩:=af w1'.heap.size
    have hH2:Below Bn w3 w2':=by rw[hv];exact hHeld.alloc hz1 _
    have hz2:Bn<=w2'.heap.size:=by rw[hv,World.size_alloc];omega
    have hbk:Below w1'.heap.size w1' w2':=by rw[hv];exact bM _
    have hSU:mS ≠ mU:=by have:=hS.lt;omega
    replace hS:=hS.below hbk hS.lt;have hU:w2'.heap[mU]? = some (.map #[] 0):=by rw[hv,hb];exact World.alloc_heap_new _ _
    have hUl:mU < w2'.heap.size:=by rw[hv,hb,World.size_alloc];omega
    have hUB:Bn<=mU:=by omega
    rw[<-hv,<-hb];clear hv hb hbk;refine hK.out _ _ hH2 (fun hHeld=>?_);clear hK K hH2
    try simp only[Act.put,qa,qb,qc]
    refine wpAnyH_ready (rs:=[9,11]) (by kernel_rfl) (by simp) ?_;refine AllReadyH.cons (o:=⟨none,_,_,_,_,_⟩) rfl (fun K hK=>?_) (AllReadyH.cons (o:=⟨some 27,_,_,_,_,_⟩) rfl (fun K hK=>?_) AllReadyH.nil)
    focus
     rw[if_pos (by rfl)];go_simp;have hpu:=bW cf.key w2' mU hU;rw[show(.agg (aw cf.key):Value)=.agg (aw cf.key).toList.toArray from rfl]at hpu;obtain⟨w3',hv⟩:∃w3',w3'=w2'.putObj mU (.map #[{ key:=.agg (aw cf.key),val:=.bool true,born:=0 }] 1):=⟨_,rfl⟩
     have hkp:aa (fun k=>k=mU) w2' w3':=by rw[hv];exact aa.of_putObj _ _ _
     have hH2:Below Bn w3 w3':=aa.below hHeld hkp (fun k e=>by rw[e];exact hUB) hz2;have hz3:Bn<=w3'.heap.size:=ba hz2 hkp.size;have hUK:UK w3' mU [aw cf.key]:=by rw[hv];exact bV _ mU hUl cf.key
     replace hS:=hS.keepF hkp (fun e=>hSU e);go_simp;rw[<-hv];clear hv hkp hpu hU hUl;refine hK.out _ _ hH2 (fun hHeld=>?_);clear hK K hH2
     try simp only[Act.put,qa,qb,qc]
     refine dF (i:=10) (x:=some 26) (v:=.map (some mU)) rfl ?_;refine bc (i:=11) (x:=some 27) rfl fun K hK=>?_;go_simp;refine(cX w3').mono ?_;rintro e w4' ⟨rfl,hbk,tt,cs,hC,hCX⟩;replace hCX:=zh hCX;obtain⟨eb,heb⟩:=af w3'.heap.size
     rw[<-heb]at hC ⊢;dsimp only;have hH2:Below Bn w3 w4':=hHeld.trans (hbk.mono hz3);have hz4:Bn<=w4'.heap.size:=ba hz3 hbk.size;have hEl:Bn<=eb:=by omega
     replace hS:=hS.below hbk hS.lt;replace hUK:=hUK.keep (hbk.block mU hUK.lt);clear heb hbk;refine hK.out _ _ hH2 (fun hHeld=>?_);clear hK K hH2
    rotate_left
    focus
     rw[if_pos (by rfl)];go_simp;refine(cX w2').mono ?_;rintro e w3' ⟨rfl,hbk,tt,cs,hC,hCX⟩;replace hCX:=zh hCX;obtain⟨eb,heb⟩:=af w2'.heap.size
     rw[<-heb]at hC ⊢;dsimp only;have hH2:Below Bn w3 w3':=hHeld.trans (hbk.mono hz2);have hz3:Bn<=w3'.heap.size:=ba hz2 hbk.size;have hEl:Bn<=eb:=by omega
     replace hS:=hS.below hbk hS.lt;replace hU:=(hbk.block mU hUl).trans hU;replace hUl:mU < w3'.heap.size:=bg hUl hbk.size;clear heb hbk;refine hK.out _ _ hH2 (fun hHeld=>?_);clear hK K hH2
     try simp only[Act.put,qa,qb,qc]
     refine bc (i:=9) (x:=none) rfl fun K hK=>?_;go_simp;have hpu:=bW cf.key w3' mU hU;rw[show(.agg (aw cf.key):Value)=.agg (aw cf.key).toList.toArray from rfl]at hpu;obtain⟨w4',hv⟩:∃w4',w4'=w3'.putObj mU (.map #[{ key:=.agg (aw cf.key),val:=.bool true,born:=0 }] 1):=⟨_,rfl⟩
     have hkp:aa (fun k=>k=mU) w3' w4':=by rw[hv];exact aa.of_putObj _ _ _
     have hH2:Below Bn w3 w4':=aa.below hHeld hkp (fun k e=>by rw[e];exact hUB) hz3;have hz4:Bn<=w4'.heap.size:=ba hz3 hkp.size;have hUK:UK w4' mU [aw cf.key]:=by rw[hv];exact bV _ mU hUl cf.key
     replace hS:=hS.keepF hkp (fun e=>hSU e);replace hC:=hkp.blk hC (fun e=>by have hX:=show _=_ from hC;rw[e,hU]at hX;cases hX);go_simp;rw[<-hv];clear hv hkp hpu hU hUl;refine hK.out _ _ hH2 (fun hHeld=>?_);clear hK K hH2
     try simp only[Act.put,qa,qb,qc]
     refine dF (i:=10) (x:=some 26) (v:=.map (some mU)) rfl ?_
   rotate_left 2
   focus
    rw[if_pos (by rfl)];go_simp;refine(cX w1').mono ?_;rintro e w2' ⟨rfl,hbk,tt,cs,hC,hCX⟩;replace hCX:=zh hCX;obtain⟨eb,heb⟩:=af w1'.heap.size
    rw[<-heb]at hC ⊢;dsimp only;have hH2:Below Bn w3 w2':=hHeld.trans (hbk.mono hz1);have hz2:Bn<=w2'.heap.size:=ba hz1 hbk.size;have hEl:Bn<=eb:=by omega
    replace hS:=hS.below hbk hS.lt;clear heb hbk;refine hK.out _ _ hH2 (fun hHeld=>?_);clear hK K hH2
    try simp only[Act.put,qa,qb,qc]
    refine bc (i:=6) (x:=some 23) rfl fun K hK=>?_;go_simp;obtain⟨w3',hv⟩:=af (w2'.alloc (.map #[] 0))
    obtain⟨mU,hb⟩:=af w2'.heap.size
    have hH2:Below Bn w3 w3':=by rw[hv];exact hHeld.alloc hz2 _
    have hz3:Bn<=w3'.heap.size:=by rw[hv,World.size_alloc];omega
    have hbk:Below w2'.heap.size w2' w3':=by rw[hv];exact bM _
    have hSU:mS ≠ mU:=by have:=hS.lt;omega
    replace hS:=hS.below hbk hS.lt;replace hC:=hC.below hbk hC.lt;have hU:w3'.heap[mU]? = some (.map #[] 0):=by rw[hv,hb];exact World.alloc_heap_new _ _
    have hUl:mU < w3'.heap.size:=by rw[hv,hb,World.size_alloc];omega
    have hUB:Bn<=mU:=by omega
    rw[<-hv,<-hb];clear hv hb hbk;refine hK.out _ _ hH2 (fun hHeld=>?_);clear hK K hH2
    try simp only[Act.put,qa,qb,qc]
    refine bc (i:=9) (x:=none) rfl fun K hK=>?_;go_simp;have hpu:=bW cf.key w3' mU hU;rw[show(.agg (aw cf.key):Value)=.agg (aw cf.key).toList.toArray from rfl]at hpu;obtain⟨w4',hv⟩:∃w4',w4'=w3'.putObj mU (.map #[{ key:=.agg (aw cf.key),val:=.bool true,born:=0 }] 1):=⟨_,rfl⟩
    have hkp:aa (fun k=>k=mU) w3' w4':=by rw[hv];exact aa.of_putObj _ _ _
    have hH2:Below Bn w3 w4':=aa.below hHeld hkp (fun k e=>by rw[e];exact hUB) hz3;have hz4:Bn<=w4'.heap.size:=ba hz3 hkp.size;have hUK:UK w4' mU [aw cf.key]:=by rw[hv];exact bV _ mU hUl cf.key
    replace hS:=hS.keepF hkp (fun e=>hSU e);replace hC:=hkp.blk hC (fun e=>by have hX:=show _=_ from hC;rw[e,hU]at hX;cases hX);go_simp;rw[<-hv];clear hv hkp hpu hU hUl;refine hK.out _ _ hH2 (fun hHeld=>?_);clear hK K hH2
    try simp only[Act.put,qa,qb,qc]
    refine dF (i:=10) (x:=some 26) (v:=.map (some mU)) rfl ?_
  rotate_left 3
  focus
   rw[if_pos (by rfl)];go_simp;obtain⟨w1',hv⟩:=af (w0.alloc (.map #[] 0))
   obtain⟨mU,hb⟩:=af w0.heap.size
   have hH2:Below Bn w3 w1':=by rw[hv];exact hHeld.alloc hz0 _
   have hz1:Bn<=w1'.heap.size:=by rw[hv,World.size_alloc];omega
   have hbk:Below w0.heap.size w0 w1':=by rw[hv];exact bM _
   have hU:w1'.heap[mU]? = some (.map #[] 0):=by rw[hv,hb];exact World.alloc_heap_new _ _
   have hUl:mU < w1'.heap.size:=by rw[hv,hb,World.size_alloc];omega
   have hUB:Bn<=mU:=by omega
   rw[<-hv,<-hb];clear hv hb hbk;refine hK.out _ _ hH2 (fun hHeld=>?_);clear hK K hH2
   try simp only[Act.put,qa,qb,qc]
   refine wpAnyH_ready (rs:=[5,9,11]) (by kernel_rfl) (by simp) ?_;refine AllReadyH.cons (o:=⟨some 22,_,_,_,_,_⟩) rfl (fun K hK=>?_) (AllReadyH.cons (o:=⟨none,_,_,_,_,_⟩) rfl (fun K hK=>?_) (AllReadyH.cons (o:=⟨some 27,_,_,_,_,_⟩) rfl (fun K hK=>?_) AllReadyH.nil))
   focus
    rw[if_pos (by rfl)];go_simp;obtain⟨w2',hv⟩:=af (w1'.alloc (.map #[] 0))
    obtain⟨mS,hb⟩:=af w1'.heap.size
    have hH2:Below Bn w3 w2':=by rw[hv];exact hHeld.alloc hz1 _
    have hz2:Bn<=w2'.heap.size:=by rw[hv,World.size_alloc];omega
    have hbk:Below w1'.heap.size w1' w2':=by rw[hv];exact bM _
    have hSU:mS ≠ mU:=by omega
    replace hU:=(hbk.block mU hUl).trans hU;replace hUl:mU < w2'.heap.size:=bg hUl hbk.size;have hS:SM w2' mS []:=by rw[hv,hb];exact SM.made _
    have hSl:Bn<=mS:=by omega
    rw[<-hv,<-hb];clear hv hb hbk;refine hK.out _ _ hH2 (fun hHeld=>?_);clear hK K hH2
    try simp only[Act.put,qa,qb,qc]
    refine wpAnyH_ready (rs:=[9,11]) (by kernel_rfl) (by simp) ?_;refine AllReadyH.cons (o:=⟨none,_,_,_,_,_⟩) rfl (fun K hK=>?_) (AllReadyH.cons (o:=⟨some 27,_,_,_,_,_⟩) rfl (fun K hK=>?_) AllReadyH.nil)
    focus
     rw[if_pos (by rfl)];go_simp;have hpu:=bW cf.key w2' mU hU;rw[show(.agg (aw cf.key):Value)=.agg (aw cf.key).toList.toArray from rfl]at hpu;obtain⟨w3',hv⟩:∃w3',w3'=w2'.putObj mU (.map #[{ key:=.agg (aw cf.key),val:=.bool true,born:=0 }] 1):=⟨_,rfl⟩
     have hkp:aa (fun k=>k=mU) w2' w3':=by rw[hv];exact aa.of_putObj _ _ _
     have hH2:Below Bn w3 w3':=aa.below hHeld hkp (fun k e=>by rw[e];exact hUB) hz2;have hz3:Bn<=w3'.heap.size:=ba hz2 hkp.size;have hUK:UK w3' mU [aw cf.key]:=by rw[hv];exact bV _ mU hUl cf.key
     replace hS:=hS.keepF hkp (fun e=>hSU e);go_simp;rw[<-hv];clear hv hkp hpu hU hUl;refine hK.out _ _ hH2 (fun hHeld=>?_);clear hK K hH2
     try simp only[Act.put,qa,qb,qc]
     refine dF (i:=10) (x:=some 26) (v:=.map (some mU)) rfl ?_;refine bc (i:=11) (x:=some 27) rfl fun K hK=>?_;go_simp;refine(cX w3').mono ?_;rintro e w4' ⟨rfl,hbk,tt,cs,hC,hCX⟩;replace hCX:=zh hCX;obtain⟨eb,heb⟩:=af w3'.heap.size
     rw[<-heb]at hC ⊢;dsimp only;have hH2:Below Bn w3 w4':=hHeld.trans (hbk.mono hz3);have hz4:Bn<=w4'.heap.size:=ba hz3 hbk.size;have hEl:Bn<=eb:=by omega
     replace hS:=hS.below hbk hS.lt;replace hUK:=hUK.keep (hbk.block mU hUK.lt);clear heb hbk;refine hK.out _ _ hH2 (fun hHeld=>?_);clear hK K hH2
    rotate_left
    focus
     rw[if_pos (by rfl)];go_simp;refine(cX w2').mono ?_;rintro e w3' ⟨rfl,hbk,tt,cs,hC,hCX⟩;replace hCX:=zh hCX;obtain⟨eb,heb⟩:=af w2'.heap.size
     rw[<-heb]at hC ⊢;dsimp only;have hH2:Below Bn w3 w3':=hHeld.trans (hbk.mono hz2);have hz3:Bn<=w3'.heap.size:=ba hz2 hbk.size;have hEl:Bn<=eb:=by omega
     replace hS:=hS.below hbk hS.lt;replace hU:=(hbk.block mU hUl).trans hU;replace hUl:mU < w3'.heap.size:=bg hUl hbk.size;clear heb hbk;refine hK.out _ _ hH2 (fun hHeld=>?_);clear hK K hH2
     try simp only[Act.put,qa,qb,qc]
     refine bc (i:=9) (x:=none) rfl fun K hK=>?_;go_simp;have hpu:=bW cf.key w3' mU hU;rw[show(.agg (aw cf.key):Value)=.agg (aw cf.key).toList.toArray from rfl]at hpu;obtain⟨w4',hv⟩:∃w4',w4'=w3'.putObj mU (.map #[{ key:=.agg (aw cf.key),val:=.bool true,born:=0 }] 1):=⟨_,rfl⟩
     have hkp:aa (fun k=>k=mU) w3' w4':=by rw[hv];exact aa.of_putObj _ _ _
     have hH2:Below Bn w3 w4':=aa.below hHeld hkp (fun k e=>by rw[e];exact hUB) hz3;have hz4:Bn<=w4'.heap.size:=ba hz3 hkp.size;have hUK:UK w4' mU [aw cf.key]:=by rw[hv];exact bV _ mU hUl cf.key
     replace hS:=hS.keepF hkp (fun e=>hSU e);replace hC:=hkp.blk hC (fun e=>by have hX:=show _=_ from hC;rw[e,hU]at hX;cases hX);go_simp;rw[<-hv];clear hv hkp hpu hU hUl;refine hK.out _ _ hH2 (fun hHeld=>?_);clear hK K hH2
     try simp only[Act.put,qa,qb,qc]
     refine dF (i:=10) (x:=some 26) (v:=.map (some mU)) rfl ?_
   rotate_left 2
   focus
    rw[if_pos (by rfl)];go_simp;have hpu:=bW cf.key w1' mU hU;rw[show(.agg (aw cf.key):Value)=.agg (aw cf.key).toList.toArray from rfl]at hpu;obtain⟨w2',hv⟩:∃w2',w2'=w1'.putObj mU (.map #[{ key:=.agg (aw cf.key),val:=.bool true,born:=0 }] 1):=⟨_,rfl⟩
    have hkp:aa (fun k=>k=mU) w1' w2':=by rw[hv];exact aa.of_putObj _ _ _
    have hH2:Below Bn w3 w2':=aa.below hHeld hkp (fun k e=>by rw[e];exact hUB) hz1;have hz2:Bn<=w2'.heap.size:=ba hz1 hkp.size;have hUK:UK w2' mU [aw cf.key]:=by rw[hv];exact bV _ mU hUl cf.key
    go_simp;rw[<-hv];clear hv hkp hpu hU hUl;refine hK.out _ _ hH2 (fun hHeld=>?_);clear hK K hH2
    try simp only[Act.put,qa,qb,qc]
    refine dF (i:=10) (x:=some 26) (v:=.map (some mU)) rfl ?_;refine wpAnyH_ready (rs:=[5,11]) (by kernel_rfl) (by simp) ?_;refine AllReadyH.cons (o:=⟨some 22,_,_,_,_,_⟩) rfl (fun K hK=>?_) (AllReadyH.cons (o:=⟨some 27,_,_,_,_,_⟩) rfl (fun K hK=>?_) AllReadyH.nil)
    focus
     rw[if_pos (by rfl)];go_simp;obtain⟨w3',hv⟩:=af (w2'.alloc (.map #[] 0))
     obtain⟨mS,hb⟩:=af w2'.heap.size
     have hH2:Below Bn w3 w3':=by rw[hv];exact hHeld.alloc hz2 _
     have hz3:Bn<=w3'.heap.size:=by rw[hv,World.size_alloc];omega
     have hbk:Below w2'.heap.size w2' w3':=by rw[hv];exact bM _
     have hSU:mS ≠ mU:=by have:=hUK.lt;omega
     replace hUK:=hUK.keep (hbk.block mU hUK.lt);have hS:SM w3' mS []:=by rw[hv,hb];exact SM.made _
     have hSl:Bn<=mS:=by omega
     rw[<-hv,<-hb];clear hv hb hbk;refine hK.out _ _ hH2 (fun hHeld=>?_);clear hK K hH2
     try simp only[Act.put,qa,qb,qc]
     refine bc (i:=11) (x:=some 27) rfl fun K hK=>?_;go_simp;refine(cX w3').mono ?_;rintro e w4' ⟨rfl,hbk,tt,cs,hC,hCX⟩;replace hCX:=zh hCX;obtain⟨eb,heb⟩:=af w3'.heap.size
     rw[<-heb]at hC ⊢;dsimp only;have hH2:Below Bn w3 w4':=hHeld.trans (hbk.mono hz3);have hz4:Bn<=w4'.heap.size:=ba hz3 hbk.size;have hEl:Bn<=eb:=by omega
     replace hS:=hS.below hbk hS.lt;replace hUK:=hUK.keep (hbk.block mU hUK.lt);clear heb hbk
    rotate_left
    focus
     rw[if_pos (by rfl)];go_simp;refine(cX w2').mono ?_;rintro e w3' ⟨rfl,hbk,tt,cs,hC,hCX⟩;replace hCX:=zh hCX;obtain⟨eb,heb⟩:=af w2'.heap.size
     rw[<-heb]at hC ⊢;dsimp only;have hH2:Below Bn w3 w3':=hHeld.trans (hbk.mono hz2);have hz3:Bn<=w3'.heap.size:=ba hz2 hbk.size;have hEl:Bn<=eb:=by omega
     replace hUK:=hUK.keep (hbk.block mU hUK.lt);clear heb hbk;refine hK.out _ _ hH2 (fun hHeld=>?_);clear hK K hH2
     try simp only[Act.put,qa,qb,qc]
     refine bc (i:=5) (x:=some 22) rfl fun K hK=>?_;go_simp;obtain⟨w4',hv⟩:=af (w3'.alloc (.map #[] 0))
     obtain⟨mS,hb⟩:=af w3'.heap.size
     have hH2:Below Bn w3 w4':=by rw[hv];exact hHeld.alloc hz3 _
     have hz4:Bn<=w4'.heap.size:=by rw[hv,World.size_alloc];omega
     have hbk:Below w3'.heap.size w3' w4':=by rw[hv];exact bM _
     have hSU:mS ≠ mU:=by have:=hUK.lt;omega
     replace hUK:=hUK.keep (hbk.block mU hUK.lt);replace hC:=hC.below hbk hC.lt;have hS:SM w4' mS []:=by rw[hv,hb];exact SM.made _
     have hSl:Bn<=mS:=by omega
     rw[<-hv,<-hb];clear hv hb hbk
    all_goals
     refine hK.out _ _ hH2 (fun hHeld=>?_);clear hK K hH2
   rotate_left 2
   focus
    rw[if_pos (by rfl)];go_simp;refine(cX w1').mono ?_;rintro e w2' ⟨rfl,hbk,tt,cs,hC,hCX⟩;replace hCX:=zh hCX;obtain⟨eb,heb⟩:=af w1'.heap.size
    rw[<-heb]at hC ⊢;dsimp only;have hH2:Below Bn w3 w2':=hHeld.trans (hbk.mono hz1);have hz2:Bn<=w2'.heap.size:=ba hz1 hbk.size;have hEl:Bn<=eb:=by omega
    replace hU:=(hbk.block mU hUl).trans hU;replace hUl:mU < w2'.heap.size:=bg hUl hbk.size;clear heb hbk;refine hK.out _ _ hH2 (fun hHeld=>?_);clear hK K hH2
    try simp only[Act.put,qa,qb,qc]
    refine wpAnyH_ready (rs:=[5,9]) (by kernel_rfl) (by simp) ?_;refine AllReadyH.cons (o:=⟨some 22,_,_,_,_,_⟩) rfl (fun K hK=>?_) (AllReadyH.cons (o:=⟨none,_,_,_,_,_⟩) rfl (fun K hK=>?_) AllReadyH.nil)
    focus
     rw[if_pos (by rfl)];go_simp;obtain⟨w3',hv⟩:=af (w2'.alloc (.map #[] 0))
     obtain⟨mS,hb⟩:=af w2'.heap.size
     have hH2:Below Bn w3 w3':=by rw[hv];exact hHeld.alloc hz2 _
     have hz3:Bn<=w3'.heap.size:=by rw[hv,World.size_alloc];omega
     have hbk:Below w2'.heap.size w2' w3':=by rw[hv];exact bM _
     have hSU:mS ≠ mU:=by omega
     replace hU:=(hbk.block mU hUl).trans hU;replace hUl:mU < w3'.heap.size:=bg hUl hbk.size;replace hC:=hC.below hbk hC.lt;have hS:SM w3' mS []:=by rw[hv,hb];exact SM.made _
     have hSl:Bn<=mS:=by omega
     rw[<-hv,<-hb];clear hv hb hbk;refine hK.out _ _ hH2 (fun hHeld=>?_);clear hK K hH2
     try simp only[Act.put,qa,qb,qc]
     refine bc (i:=9) (x:=none) rfl fun K hK=>?_;go_simp;have hpu:=bW cf.key w3' mU hU;rw[show(.agg (aw cf.key):Value)=.agg (aw cf.key).toList.toArray from rfl]at hpu;obtain⟨w4',hv⟩:∃w4',w4'=w3'.putObj mU (.map #[{ key:=.agg (aw cf.key),val:=.bool true,born:=0 }] 1):=⟨_,rfl⟩
     have hkp:aa (fun k=>k=mU) w3' w4':=by rw[hv];exact aa.of_putObj _ _ _
     have hH2:Below Bn w3 w4':=aa.below hHeld hkp (fun k e=>by rw[e];exact hUB) hz3;have hz4:Bn<=w4'.heap.size:=ba hz3 hkp.size;have hUK:UK w4' mU [aw cf.key]:=by rw[hv];exact bV _ mU hUl cf.key
     replace hS:=hS.keepF hkp (fun e=>hSU e);replace hC:=hkp.blk hC (fun e=>by have hX:=show _=_ from hC;rw[e,hU]at hX;cases hX);go_simp;rw[<-hv];clear hv hkp hpu hU hUl;refine hK.out _ _ hH2 (fun hHeld=>?_);clear hK K hH2
     try simp only[Act.put,qa,qb,qc]
     refine dF (i:=10) (x:=some 26) (v:=.map (some mU)) rfl ?_
    rotate_left
    focus
     rw[if_pos (by rfl)];go_simp;have hpu:=bW cf.key w2' mU hU;rw[show(.agg (aw cf.key):Value)=.agg (aw cf.key).toList.toArray from rfl]at hpu;obtain⟨w3',hv⟩:∃w3',w3'=w2'.putObj mU (.map #[{ key:=.agg (aw cf.key),val:=.bool true,born:=0 }] 1):=⟨_,rfl⟩
     have hkp:aa (fun k=>k=mU) w2' w3':=by rw[hv];exact aa.of_putObj _ _ _
     have hH2:Below Bn w3 w3':=aa.below hHeld hkp (fun k e=>by rw[e];exact hUB) hz2;have hz3:Bn<=w3'.heap.size:=ba hz2 hkp.size;have hUK:UK w3' mU [aw cf.key]:=by rw[hv];exact bV _ mU hUl cf.key
     replace hC:=hkp.blk hC (fun e=>by have hX:=show _=_ from hC;rw[e,hU]at hX;cases hX);go_simp;rw[<-hv];clear hv hkp hpu hU hUl;refine hK.out _ _ hH2 (fun hHeld=>?_);clear hK K hH2
     try simp only[Act.put,qa,qb,qc]
     refine dF (i:=10) (x:=some 26) (v:=.map (some mU)) rfl ?_;refine bc (i:=5) (x:=some 22) rfl fun K hK=>?_;go_simp;obtain⟨w4',hv⟩:=af (w3'.alloc (.map #[] 0))
     obtain⟨mS,hb⟩:=af w3'.heap.size
     have hH2:Below Bn w3 w4':=by rw[hv];exact hHeld.alloc hz3 _
     have hz4:Bn<=w4'.heap.size:=by rw[hv,World.size_alloc];omega
     have hbk:Below w3'.heap.size w3' w4':=by rw[hv];exact bM _
     have hSU:mS ≠ mU:=by have:=hUK.lt;omega
     replace hUK:=hUK.keep (hbk.block mU hUK.lt);replace hC:=hC.below hbk hC.lt;have hS:SM w4' mS []:=by rw[hv,hb];exact SM.made _
     have hSl:Bn<=mS:=by omega
     rw[<-hv,<-hb];clear hv hb hbk;refine hK.out _ _ hH2 (fun hHeld=>?_);clear hK K hH2
  rotate_left 6
  focus
   rw[if_pos (by rfl)];go_simp;refine(cX w0).mono ?_;rintro e w1' ⟨rfl,hbk,tt,cs,hC,hCX⟩;replace hCX:=zh hCX;obtain⟨eb,heb⟩:=af w0.heap.size
   rw[<-heb]at hC ⊢;dsimp only;have hH2:Below Bn w3 w1':=hHeld.trans (hbk.mono hz0);have hz1:Bn<=w1'.heap.size:=ba hz0 hbk.size;have hEl:Bn<=eb:=by omega
   clear heb hbk;refine hK.out _ _ hH2 (fun hHeld=>?_);clear hK K hH2
   try simp only[Act.put,qa,qb,qc]
   refine wpAnyH_ready (rs:=[5,6]) (by kernel_rfl) (by simp) ?_;refine AllReadyH.cons (o:=⟨some 22,_,_,_,_,_⟩) rfl (fun K hK=>?_) (AllReadyH.cons (o:=⟨some 23,_,_,_,_,_⟩) rfl (fun K hK=>?_) AllReadyH.nil)
   focus
    rw[if_pos (by rfl)];go_simp;obtain⟨w2',hv⟩:=af (w1'.alloc (.map #[] 0))
    obtain⟨mS,hb⟩:=af w1'.heap.size
    have hH2:Below Bn w3 w2':=by rw[hv];exact hHeld.alloc hz1 _
    have hz2:Bn<=w2'.heap.size:=by rw[hv,World.size_alloc];omega
    have hbk:Below w1'.heap.size w1' w2':=by rw[hv];exact bM _
    replace hC:=hC.below hbk hC.lt;have hS:SM w2' mS []:=by rw[hv,hb];exact SM.made _
    have hSl:Bn<=mS:=by omega
    rw[<-hv,<-hb];clear hv hb hbk;refine hK.out _ _ hH2 (fun hHeld=>?_);clear hK K hH2
    try simp only[Act.put,qa,qb,qc]
    refine bc (i:=6) (x:=some 23) rfl fun K hK=>?_;go_simp;obtain⟨w3',hv⟩:=af (w2'.alloc (.map #[] 0))
    obtain⟨mU,hb⟩:=af w2'.heap.size
    have hH2:Below Bn w3 w3':=by rw[hv];exact hHeld.alloc hz2 _
    have hz3:Bn<=w3'.heap.size:=by rw[hv,World.size_alloc];omega
    have hbk:Below w2'.heap.size w2' w3':=by rw[hv];exact bM _
    have hSU:mS ≠ mU:=by have:=hS.lt;omega
    replace hS:=hS.below hbk hS.lt;replace hC:=hC.below hbk hC.lt;have hU:w3'.heap[mU]? = some (.map #[] 0):=by rw[hv,hb];exact World.alloc_heap_new _ _
    have hUl:mU < w3'.heap.size:=by rw[hv,hb,World.size_alloc];omega
    have hUB:Bn<=mU:=by omega
    rw[<-hv,<-hb];clear hv hb hbk;refine hK.out _ _ hH2 (fun hHeld=>?_);clear hK K hH2
    try simp only[Act.put,qa,qb,qc]
    refine bc (i:=9) (x:=none) rfl fun K hK=>?_;go_simp;have hpu:=bW cf.key w3' mU hU;rw[show(.agg (aw cf.key):Value)=.agg (aw cf.key).toList.toArray from rfl]at hpu;obtain⟨w4',hv⟩:∃w4',w4'=w3'.putObj mU (.map #[{ key:=.agg (aw cf.key),val:=.bool true,born:=0 }] 1):=⟨_,rfl⟩
    have hkp:aa (fun k=>k=mU) w3' w4':=by rw[hv];exact aa.of_putObj _ _ _
    have hH2:Below Bn w3 w4':=aa.below hHeld hkp (fun k e=>by rw[e];exact hUB) hz3;have hz4:Bn<=w4'.heap.size:=ba hz3 hkp.size;have hUK:UK w4' mU [aw cf.key]:=by rw[hv];exact bV _ mU hUl cf.key
    replace hS:=hS.keepF hkp (fun e=>hSU e);replace hC:=hkp.blk hC (fun e=>by have hX:=show _=_ from hC;rw[e,hU]at hX;cases hX);go_simp;rw[<-hv];clear hv hkp hpu hU hUl;refine hK.out _ _ hH2 (fun hHeld=>?_);clear hK K hH2
    try simp only[Act.put,qa,qb,qc]
    refine dF (i:=10) (x:=some 26) (v:=.map (some mU)) rfl ?_
   rotate_left
   focus
    rw[if_pos (by rfl)];go_simp;obtain⟨w2',hv⟩:=af (w1'.alloc (.map #[] 0))
    obtain⟨mU,hb⟩:=af w1'.heap.size
    have hH2:Below Bn w3 w2':=by rw[hv];exact hHeld.alloc hz1 _
    have hz2:Bn<=w2'.heap.size:=by rw[hv,World.size_alloc];omega
    have hbk:Below w1'.heap.size w1' w2':=by rw[hv];exact bM _
    replace hC:=hC.below hbk hC.lt;have hU:w2'.heap[mU]? = some (.map #[] 0):=by rw[hv,hb];exact World.alloc_heap_new _ _
    have hUl:mU < w2'.heap.size:=by rw[hv,hb,World.size_alloc];omega
    have hUB:Bn<=mU:=by omega
    rw[<-hv,<-hb];clear hv hb hbk;refine hK.out _ _ hH2 (fun hHeld=>?_);clear hK K hH2
    try simp only[Act.put,qa,qb,qc]
    refine wpAnyH_ready (rs:=[5,9]) (by kernel_rfl) (by simp) ?_;refine AllReadyH.cons (o:=⟨some 22,_,_,_,_,_⟩) rfl (fun K hK=>?_) (AllReadyH.cons (o:=⟨none,_,_,_,_,_⟩) rfl (fun K hK=>?_) AllReadyH.nil)
    focus
     rw[if_pos (by rfl)];go_simp;obtain⟨w3',hv⟩:=af (w2'.alloc (.map #[] 0))
     obtain⟨mS,hb⟩:=af w2'.heap.size
     have hH2:Below Bn w3 w3':=by rw[hv];exact hHeld.alloc hz2 _
     have hz3:Bn<=w3'.heap.size:=by rw[hv,World.size_alloc];omega
     have hbk:Below w2'.heap.size w2' w3':=by rw[hv];exact bM _
     have hSU:mS ≠ mU:=by omega
     replace hU:=(hbk.block mU hUl).trans hU;replace hUl:mU < w3'.heap.size:=bg hUl hbk.size;replace hC:=hC.below hbk hC.lt;have hS:SM w3' mS []:=by rw[hv,hb];exact SM.made _
     have hSl:Bn<=mS:=by omega
     rw[<-hv,<-hb];clear hv hb hbk;refine hK.out _ _ hH2 (fun hHeld=>?_);clear hK K hH2
     try simp only[Act.put,qa,qb,qc]
     refine bc (i:=9) (x:=none) rfl fun K hK=>?_;go_simp;have hpu:=bW cf.key w3' mU hU;rw[show(.agg (aw cf.key):Value)=.agg (aw cf.key).toList.toArray from rfl]at hpu;obtain⟨w4',hv⟩:∃w4',w4'=w3'.putObj mU (.map #[{ key:=.agg (aw cf.key),val:=.bool true,born:=0 }] 1):=⟨_,rfl⟩
     have hkp:aa (fun k=>k=mU) w3' w4':=by rw[hv];exact aa.of_putObj _ _ _
     have hH2:Below Bn w3 w4':=aa.below hHeld hkp (fun k e=>by rw[e];exact hUB) hz3;have hz4:Bn<=w4'.heap.size:=ba hz3 hkp.size;have hUK:UK w4' mU [aw cf.key]:=by rw[hv];exact bV _ mU hUl cf.key
     replace hS:=hS.keepF hkp (fun e=>hSU e);replace hC:=hkp.blk hC (fun e=>by have hX:=show _=_ from hC;rw[e,hU]at hX;cases hX);go_simp;rw[<-hv];clear hv hkp hpu hU hUl;refine hK.out _ _ hH2 (fun hHeld=>?_);clear hK K hH2
     try simp only[Act.put,qa,qb,qc]
     refine dF (i:=10) (x:=some 26) (v:=.map (some mU)) rfl ?_
    rotate_left
    focus
     rw[if_pos (by rfl)];go_simp;have hpu:=bW cf.key w2' mU hU;rw[show(.agg (aw cf.key):Value)=.agg (aw cf.key).toList.toArray from rfl]at hpu;obtain⟨w3',hv⟩:∃w3',w3'=w2'.putObj mU (.map #[{ key:=.agg (aw cf.key),val:=.bool true,born:=0 }] 1):=⟨_,rfl⟩
     have hkp:aa (fun k=>k=mU) w2' w3':=by rw[hv];exact aa.of_putObj _ _ _
     have hH2:Below Bn w3 w3':=aa.below hHeld hkp (fun k e=>by rw[e];exact hUB) hz2;have hz3:Bn<=w3'.heap.size:=ba hz2 hkp.size;have hUK:UK w3' mU [aw cf.key]:=by rw[hv];exact bV _ mU hUl cf.key
     replace hC:=hkp.blk hC (fun e=>by have hX:=show _=_ from hC;rw[e,hU]at hX;cases hX);go_simp;rw[<-hv];clear hv hkp hpu hU hUl;refine hK.out _ _ hH2 (fun hHeld=>?_);clear hK K hH2
     try simp only[Act.put,qa,qb,qc]
     refine dF (i:=10) (x:=some 26) (v:=.map (some mU)) rfl ?_;refine bc (i:=5) (x:=some 22) rfl fun K hK=>?_;go_simp;obtain⟨w4',hv⟩:=af (w3'.alloc (.map #[] 0))
     obtain⟨mS,hb⟩:=af w3'.heap.size
     have hH2:Below Bn w3 w4':=by rw[hv];exact hHeld.alloc hz3 _
     have hz4:Bn<=w4'.heap.size:=by rw[hv,World.size_alloc];omega
     have hbk:Below w3'.heap.size w3' w4':=by rw[hv];exact bM _
     have hSU:mS ≠ mU:=by have:=hUK.lt;omega
     replace hUK:=hUK.keep (hbk.block mU hUK.lt);replace hC:=hC.below hbk hC.lt;have hS:SM w4' mS []:=by rw[hv,hb];exact SM.made _
     have hSl:Bn<=mS:=by omega
     rw[<-hv,<-hb];clear hv hb hbk;refine hK.out _ _ hH2 (fun hHeld=>?_);clear hK K hH2
  all_goals
   try simp only[Act.put,qa,qb,qc]
   refine ed (i:=12) (x:=some 28) (v:=.agg (mf (eG cf) 0 d nx mS false 0 0 mU eb 0)) rfl (.inl ⟨by rfl,fun W hW=>(by kernel_rfl)⟩) ?_;refine bc (i:=13) (x:=some 29) rfl fun K hK=>?_;go_simp;obtain⟨wv,hv⟩:=af (w4'.alloc (.cells (mf (eG cf) 0 d nx mS false 0 0 mU eb 0) 120))
   obtain⟨rb,hrb⟩:=af w4'.heap.size
   have hR:ae wv rb 120 (mf (eG cf) 0 d nx mS false 0 0 mU eb 0):=by rw[hv,hrb];exact ae.new _ _ _
   have hH2:Below Bn w3 wv:=by rw[hv];exact hHeld.alloc hz4 _
   have hbk:Below w4'.heap.size w4' wv:=by rw[hv];exact bM _
   have hne:eb ≠ rb:=by have:=hC.lt;omega
   replace hS:=hS.below hbk hS.lt;replace hUK:=hUK.keep (hbk.block mU hUK.lt);replace hC:=hC.below hbk hC.lt;rw[<-hv,<-hrb];refine hK.out _ _ hH2 (fun hHeld=>?_);clear hK K
   try simp only[Act.put,qa,qb,qc]
   refine dF (i:=14) (x:=some 6) (v:=.pointer (some ⟨rb,0,none⟩)) rfl ?_;refine wpAnyH_done (by kernel_rfl) ?_ _;go_wp2;go_meet
   exact⟨rb,mS,mU,eb,_,rfl,mw cf d nx HD0.out _ rb mS mU eb tt cs (by rw[iR];exact hR) hS hUK hC hCX hne hSU,by omega,hSl,hUB,hEl,hH2⟩
 case rest=>
  obtain⟨rb,mS,mU,eb,X,rfl,hR,h1,h2,h3,h4,hB⟩:=hcut;have HR:=zh hR;have HB:=zh hB;have xs2:wc.cell? ⟨zb+1,2,none⟩=some (.slice A m c):=(BS.out.below hB hzl).cell 2;have HBX:=zh (show Below w.heap.size w wc from D3.out.trans (hB.mono hbw));have HB4:=zh (show w.heap.size<=rb/\w.heap.size<=mS/\w.heap.size<=mU/\w.heap.size<=eb by omega);clear hR hB;go_wp2;have HLM:=zh (show m<=maxLen from HM.out);have hml:(m:Int)<=9223372036854775807:=by have:=HM.out;unfold maxLen at this;omega
  obtain⟨W4,hW4⟩:∃W4:Nat->Prop,W4=fun k=>k=rb\/k=mS\/k=mU\/k=eb:=⟨_,rfl⟩
  have HW4:=zh (show ∀q,W4 q->w.heap.size<=q by rw[hW4];intro q hq;have:=HB4.out;rcases hq with h | h | h | h<;>omega);have HQ:Hid (∀w' e l R,e=.returned (.tuple #[.pointer (some ⟨rb,0,none⟩),.int .i64 0])->eI w' rb (gA cf X d nx (gt ct pn z m)) W4 R mS l mU eb->(∀k,R k->w.heap.size<=k)->Below w.heap.size w w'->lS cf d nx (gt ct pn z m) w e w'):=zh (by
   rw[hW4]
   exact fun w' e l R h1 h2 h3 h4=>⟨rb,mS,mU,eb,X,l,R,h1,h2,HB4.out.1,HB4.out.2.1,HB4.out.2.2.1,HB4.out.2.2.2,h3,h4⟩)
  rw[<-hW4]at HR;clear hW4;go_loopw [8,33] (fun v8 v33 wr=>∃(k:Nat) (l:List SE) (R:Nat->Prop),k<=m/\v33=.int .i64 k/\eI wr rb (gA cf X d nx (gt ct pn z k)) W4 R mS l mU eb/\(∀q,R q->wc.heap.size<=q)/\aa (fun q=>q=mS) wc wr) (fun _ v33 _=>m-(intOf v33).toNat)
  case atStart=>exact⟨0,[],fun _=>False,by omega,rfl,HR.out,fun q h=>h.elim,aa.refl⟩
  case round=>
   obtain⟨k,l,R,hk,rfl,hT,hRR,hK⟩:=hrel;have HT:=zh hT;have HRR:=zh hRR;have hbr:Below w.heap.size w wr:=aa.below HBX.out hK (fun q hq=>by rw[hq];exact HB4.out.2.1) HBX.out.size;have HK:=zh (And.intro hK hbr);clear hT hRR hK;have k0:(0:Int)<=(k:Int):=by omega
   by_cases hkm:k < m;rotate_left
   ·have k1:¬(k:Int) < (m:Int):=by omega
    have hke:k=m:=by omega
    have HKE:=zh hke;clear hkm hke hk hbr;go_wp2;go_ret2;refine HQ.out _ _ l R rfl (by rw[<-HKE.out];exact HT.out) (fun q hq=>ba HBX.out.size (HRR.out q hq)) HK.out.2
   have k1:(k:Int) < (m:Int):=by omega
   obtain⟨he1,he2⟩:=kE HWH.out k hkm;have hCr:=HC.out.below hbr;obtain⟨lb,lo,hAA,hlb,hlc⟩:=hCr.at_ (by omega);have hc:=hlc k hkm;have hrow:=hCr.row k hkm;have hbyt:=hCr.byte k hkm;subst hAA;obtain⟨x,hx⟩:=af (ct k)
   obtain⟨n,hn⟩:=af (pn k)
   obtain⟨PB,hPB⟩:∃P,P=PA k:=⟨_,rfl⟩
   obtain⟨pc',hpc⟩:∃p,p=pc k:=⟨_,rfl⟩
   obtain⟨zz,hzz⟩:∃y,y=z k:=⟨_,rfl⟩
   rw[<-hx,<-hn]at he1;rw[<-hx]at he2 hc;rw[<-hn,<-hPB]at hc hrow;rw[<-hpc]at hc;rw[<-hzz]at hrow hbyt;rw[<-hn]at hbyt;obtain⟨c0,c1⟩:=hc;have HSV:=zh (show tR ct pn z k=⟨x,n,zz⟩ by rw[hx,hn,hzz];rfl);have HE1:=zh he1;have HE2:=zh (show ∀e,e∈gt ct pn z k->e.ct < x from fun e he=>by
    obtain⟨j,hj,rfl⟩:=List.mem_map.1 he
    exact he2 j (List.mem_range.1 hj))
   have HROW:=zh hrow;have HBY:=zh hbyt;have hx0:(0:Int)<=x:=by have:=HD0.out;omega
   have hx4:x < 4294967296:=by have:=HD0.out;omega
   have wx:IntKind.u64.wrap x=x:=by simp[IntKind.wrap_u64];omega
   have HKM:=zh hkm;clear hx hn hPB hpc hzz hlc hCr hrow hbyt he1 he2 hbr hk hkm;go_upto_region 7 with (fail)
   obtain⟨pb,hpb⟩:=af wr.heap.size
   refine ag (fun V=>ae V pb 68 #[.int .u32 x,.slice PB n pc']/\Below wr.heap.size wr V) ⟨by rw[hpb];exact ae.new _ _ _,(Below.refl _ wr).alloc ao _⟩ ?_;rintro V ⟨v1,v2⟩;rw[<-hpb];have hpne:pb ≠ mS:=by rw[hpb];have:=HT.out.win _ HT.out.ws;omega
   have HVB:=zh v2;have HTV:=zh (HT.out.below v2);have HP:=zh (show ∀W',aa (fun q=>q=mS) V W'->W'.cell? ⟨pb,0,none⟩=some (.int .u32 x)/\W'.cell? ⟨pb,1,none⟩=some (.slice PB n pc')/\W'.cell? ⟨rb,43,none⟩=some (.map (some mS))from fun W' hW=>⟨(hW.blk v1 hpne).cell 0,(hW.blk v1 hpne).cell 1,(hW.blk HTV.out.blk HTV.out.gs).cell 43 |>.trans ((HTV.out.blk.cell 43).symm.trans HTV.out.cs)⟩);have HRV:=zh (HROW.out.next v2);clear v1 v2 c0 c1 hpne hpb;obtain⟨w0,hw0⟩:=af V.drew
   refine wp_region_held_drew (S:=fun w'=>aa (fun q=>q=mS) V w') (by kernel_rfl) ((aa.refl (F:=fun q=>q=mS) (w:=V)).drew) (fun hHeld=>?_);rw[<-hw0];rw[<-hw0]at hHeld;have hb0:Below V.heap.size V w0:=by rw[hw0];exact(Below.refl _ _).drew
   clear hw0;refine dF (i:=0) (x:=some 37) (v:=.pointer (some ⟨rb,0,none⟩)) rfl ?_;refine bF (i:=1) (x:=some 38) (v:=.pointer (some ⟨rb,0,none⟩)) rfl ?_;refine bF (i:=2) (x:=some 39) (v:=.pointer (some ⟨rb,43,none⟩)) rfl ?_;refine ed (i:=3) (x:=some 40) (v:=.map (some mS)) rfl (.inl ⟨by rfl,fun W hW=>(by have:=(HP.out W hW).2.2;go_simp)⟩) ?_;refine bF (i:=4) (x:=some 41) (v:=.pointer (some ⟨pb,0,none⟩)) rfl ?_;refine ed (i:=5) (x:=some 42) (v:=.int .u32 x) rfl (.inl ⟨by rfl,fun W hW=>(by have:=(HP.out W hW).1;go_simp)⟩) ?_;refine bF (i:=6) (x:=some 43) (v:=.int .u64 x) rfl ?_;refine bF (i:=7) (x:=some 44) (v:=.pointer (some ⟨pb,1,none⟩)) rfl ?_;refine ed (i:=8) (x:=some 45) (v:=.slice PB n pc') rfl (.inl ⟨by rfl,fun W hW=>(by have:=(HP.out W hW).2.1;go_simp)⟩) ?_;refine bc (i:=9) (x:=some 46) rfl fun K hK=>?_;go_simp;refine(bw PB n pc' zz w0 (by have:=HE1.out;omega) (HRV.out.next hb0)).mono ?_;rintro en u1 ⟨A2,c2,rfl,hc2,hR2,hF2,hb2⟩;dsimp only;have hb1:Below V.heap.size V u1:=hb0.trans (hb2.mono hb0.size);have hE1:aa (fun q=>q=mS) V u1:=hHeld.trans (aa.of_below (F:=fun _=>False) hb2) (fun _ _ h=>h.elim);refine hK.out _ _ hE1 (fun hHeld=>?_);clear hK K hHeld;have hTu:=HTV.out.below hb1;have hFb:∀a,A2=some a->V.heap.size<=a.block:=fun a ha=>ba hb0.size (hF2 a ha);have hTr:=hTu.moreR (R':=fun q=>R q\/∃a,A2=some a/\q=a.block) (fun q h=>.inl h) (fun q hw hr=>by
    rcases hr with hr | ⟨a,ha,hr⟩
    ·exact hTu.dis q hw hr
    ·have h1:=hFb a ha;have h2:=HTV.out.win q hw;omega) (fun q hr=>by
    rcases hr with hr | ⟨a,ha,hr⟩
    ·exact hTu.rin q hr
    ·obtain⟨b,o,hab,hbl,_⟩:=hR2 (by have:=HE1.out;omega);rw[ha]at hab
     cases hab
     rw[hr]
     exact hbl)
   have hpk:ci u1 (fun q=>R q\/∃a,A2=some a/\q=a.block) A2 n c2 zz:=⟨by have:=HE1.out;omega,by have:=HE1.out;omega,hc2,HBY.out,hR2,fun a ha=>.inr ⟨a,ha,rfl⟩⟩
   have hnone:cW x l=none:=bn.2 (fun e he h=>by
    have h1:e.v∈l.map (·.v):=List.mem_map.2 ⟨e,he,rfl⟩;rw[HTV.out.lv]at h1;have:=HE2.out e.v h1;omega)
   obtain⟨w9,hput,hm9,hk9⟩:=th hTr.st ⟨⟨x,n,zz⟩,A2,c2⟩ hx0 (by show x < _;omega) hnone hTr.few;have hput2:(Instr.mapUpdate 117 (.map (some mS)) (.int .u64 x) (.slice A2 n c2)).run Tryz.prog u1=.ok () w9:=hput;have hT9:=hTr.setMap (s':=gA cf X d nx (gt ct pn z (k+1))) hk9 hm9 (ja hTr.ris hnone) (by
    rw[oD,hTr.lv];show _=(⟨cf,0,d,nx,rD ⟨x,n,zz⟩ (gt ct pn z k),false,0,0,[aw cf.key],X,0⟩:RS);rw[nD _ _ HE2.out,sO,HSV.out]
    rfl) (fun e he=>by
    rcases (iC _ l e).1 he with rfl | he
    ·have:=HE1.out
     exact⟨by show d<=x;omega,by show x < nx;omega⟩
    ·exact hTr.rng e he) (fun e he=>by
    rcases (iC _ l e).1 he with rfl | he
    ·exact hpk
    ·exact hTr.pk e he)
   have HT9:=zh hT9;have HK9:=zh (hE1.trans hk9 (fun _ _ h=>h));have HFB:=zh hFb;clear hT9 hTr hpk hnone hm9 hk9 hput hTu hR2 hF2 hb2
   try simp only[Act.put,qa,qb,qc]
   refine bc (i:=10) (x:=none) rfl fun K hK=>?_;go_simp;refine hK.out _ _ HK9.out (fun hHeld=>?_);clear hK K hHeld
   try simp only[Act.put]
   refine wpAnyH_done (by kernel_rfl) ?_ _;clear hE1 hb1 hb0 hput2 hFb;go_wp2;go_roundw
   case rel=>exact⟨k+1,_,_,HKM.out,by go_num,HT9.out,fun q hq=>by
    have h1:=HK.out.1.size;have h2:=HVB.out.size;rcases hq with h | ⟨a,ha,h⟩
    ·exact HRR.out q h
    ·have:=HFB.out a ha;omega,(HK.out.1.trans (aa.of_below (F:=fun _=>False) HVB.out) (fun _ _ h=>h.elim)).trans HK9.out (fun _ _ h=>h)⟩
   case measure=>have:=HKM.out;simp[intOf];omega
end Go.Proofs.YtiiojpnckbglcaaGreat
namespace Go.Proofs.YtiiojpnckbglcaaGreat
open Go.RowKit
theorem po:lL 0 0 0 (fun _=>0) (fun _=>0):=⟨⟨by decide,by decide,by decide⟩,fun k hk=>by omega,.inl rfl⟩
end Go.Proofs.YtiiojpnckbglcaaGreat

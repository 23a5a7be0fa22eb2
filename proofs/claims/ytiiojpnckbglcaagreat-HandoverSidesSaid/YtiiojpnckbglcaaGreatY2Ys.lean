import Derived.Test.YtiiojpnckbglcaaGreatMY2Fs
import Derived.Test.YtiiojpnckbglcaaGreatY2Bs
import Derived.Test.YtiiojpnckbglcaaGreatMY2As
import Derived.Test.YtiiojpnckbglcaaGreatMTMs
import Derived.Test.YtiiojpnckbglcaaGreatMZOs
import Derived.Test.YtiiojpnckbglcaaGreatB1s
set_option maxRecDepth 100000
set_option maxHeartbeats 12800000
set_option linter.unusedVariables false
set_option linter.unusedSimpArgs false
namespace Go.Proofs.YtiiojpnckbglcaaGreat
open Go.RowKit
attribute [local go_sem ↓] Go.wp_at_zero Go.wp_at_succ
def Bx (w:World) (kb:Nat) (CA CB FA:Array Value) (W:World):Prop:=ae W kb 25 CA/\ae W (kb+1) 25 CB/\ae W (kb+1+1) 30 FA/\Below w.heap.size w W
section
variable {w W W':World} {kb:Nat} {CA CB FA:Array Value}
theorem Bx.below (h:Bx w kb CA CB FA W) (hb:Below W.heap.size W W'):Bx w kb CA CB FA W':=⟨h.1.below hb h.1.lt,h.2.1.below hb h.2.1.lt,h.2.2.1.below hb h.2.2.1.lt,h.2.2.2.trans (hb.mono h.2.2.2.size)⟩
theorem Bx.keepF {G:Nat->Prop} (h:Bx w kb CA CB FA W) (hk:aa G W W') (hF:∀k,G k->kb+2 < k) (hw:w.heap.size<=kb):Bx w kb CA CB FA W':=
 ⟨hk.blk h.1 (fun hf=>by have:=hF _ hf;omega),hk.blk h.2.1 (fun hf=>by have:=hF _ hf;omega),hk.blk h.2.2.1 (fun hf=>by have:=hF _ hf;omega),aa.below h.2.2.2 hk (fun k hf=>by have:=hF _ hf;omega) h.2.2.2.size⟩
theorem Bx.ra (h:Bx w kb CA CB FA W):W.rangeAt kb 0 CA.toList:=fun j y hy=>by rw[h.1.cell,Nat.zero_add,<-hy,Array.getElem?_toList]
theorem Bx.rb (h:Bx w kb CA CB FA W):W.rangeAt (kb+1) 0 CB.toList:=fun j y hy=>by rw[h.2.1.cell,Nat.zero_add,<-hy,Array.getElem?_toList]
theorem Bx.rf (h:Bx w kb CA CB FA W):W.rangeAt (kb+1+1) 0 FA.toList:=fun j y hy=>by rw[h.2.2.1.cell,Nat.zero_add,<-hy,Array.getElem?_toList]
theorem rv {g:Nat} {t:TypeId} {cs:Array Value} (h:ae W g t cs):W.rangeAt g 0 cs.toList:=fun j y hy=>by rw[h.cell,Nat.zero_add,<-hy,Array.getElem?_toList]
end
theorem wI:(Tryz.prog.info? 30).map (·.size)=some 4:=by kernel_rfl
theorem pf (a:aZ) (oka:a.Ok) (b:aZ) (okb:b.Ok) (nx:Int) (us:Bool) (A A2:Option Addr) (m c1 mq c2:Nat) (ct:Nat->Int) (PA:Nat->Option Addr) (pn pc:Nat->Nat) (z:Nat->Nat->Int) (QA:Nat->Option Addr) (qn qc:Nat->Nat) (y:Nat->Nat->Int) (w:World) (hnx:0<=nx/\nx < 4294967296) (hm:m<=maxLen) (hmq:mq<=maxLen) (h:fC w A m ct PA pn pc z) (hq:dW w A2 mq QA qn qc y) :
  Calls Tryz.prog 3 #[.agg a.arr,.agg b.arr,.agg #[.int .u32 nx,.bool us,.slice A m c1,.slice A2 mq c2]] w fun e w'=>e=.returned (.bool true)/\Below w.heap.size w w':=by
 have HKN:=zh (fun V=>qh V);have HSM:=zh (fun V (hb:Below w.heap.size w V)=>rd nx us A A2 m c1 mq c2 ct PA pn pc z V hm hmq (h.below hb));have HVA:=zh (fun V=>jr a V);have HVB:=zh (fun V=>jr b V);have HSA:Hid ((Tryz.prog.info? 25).map (·.size)=some a.arr.toList.length):=zh (by rw[Array.length_toList,a.arr_size];exact aM);have HSB:Hid ((Tryz.prog.info? 25).map (·.size)=some b.arr.toList.length):=zh (by rw[Array.length_toList,b.arr_size];exact aM);have HUC:=zh Tryz.underlying25;have HUF:=zh Tryz.underlying30;have HUS:=zh Tryz.underlying36;have HNN:=zh (fun(hf:¬re a b) V=>o4 a b hf V);have HNY:=zh (fun(hf:re a b) V=>oY a b hf.1 hf.2.1 hf.2.2.1 hf.2.2.2 V);have HRN:=zh (fun(hf:¬sR a.ac nx us m ct pn mq qn) V (hb:Below w.heap.size w V)=>pH a A A2 m c1 mq c2 nx us ct PA pn pc z QA qn qc y V hnx hm hmq (h.below hb) (hq.below hb) (fun hh=>hf hh.2));have HRY:=zh (fun(hv:a.Valid) (hf:sR a.ac nx us m ct pn mq qn) (hm:m<=1000000) (hmq:mq<=1000000) V (hb:Below w.heap.size w V)=>gO a A A2 m c1 mq c2 nx us ct PA pn pc z QA qn qc y V hnx hm hmq (h.below hb) (hq.below hb) hv hf);have HSF:=zh (fun(hm:m<=maxLen) (hmq:mq<=maxLen) pA c9 qA d9 V (h1:jd V pA A m) (h2:jo V qA A2 mq)=>pY nx us pA A qA A2 m c9 c1 mq d9 c2 V hm hmq h1 h2);have HEG:=zh (fun(hu:us=true->nx=0) (hm:m<=1000000) (hmq:mq<=1000000) g W R V (hT:dK V g (eB a (bi nx us) m ct pn z mq qn y) W R) (hb:Below w.heap.size w V)=>mJ g W R V hT hnx hu hm hmq (h.below hb) (hq.below hb));have HTP:=zh (fun(hf:sR a.ac nx us m ct pn mq qn)=>vp (z:=z) (y:=y) hf hnx h.rng);have HOK:=zh oka;have HMX:=zh (And.intro hm hmq);have ha0:a.arr[0]? = some (.int .i64 a.b):=a.arr_at (by decide);have ha1:a.arr[1]? = some (.int .i64 a.d):=a.arr_at (by decide);have hc0:b.arr[0]? = some (.int .i64 b.b):=b.arr_at (by decide);have hc1:b.arr[1]? = some (.int .i64 b.d):=b.arr_at (by decide);have HCE:=zh (And.intro ha0 (And.intro ha1 (And.intro hc0 hc1)));have HMV:=zh (fun(hf:re a b) (s:TS) (g h':Nat) (r:RS) (W R W2 R2:Nat->Prop) (sb:Nat) (l:List SE) (ub eb:Nat) (V:World) (t1:dK V g s W R) (m1:eI V h' r W2 R2 sb l ub eb) (ht:yE s) (hP:s.P.length<=1000000) (hQ:s.Q.length<=1000000) (hW:ma r) (hl:r.L.length<=250) (hac:a.ac=s.C.ac)=>
  tY g h' a b hf.1 hf.2.1 hf.2.2.1 hf.2.2.2 (s.moved a) r.deliver r.next r.L V (fun V hb=>vC g h' s r W R W2 R2 sb l ub eb V (t1.below hb) (m1.below hb)) (fun V hb=>(sX g s W R V (t1.below hb) ht hP hQ).mono fun e w1 ⟨FA,he,hs,hb1,hr⟩=>⟨FA,he,hs,hb1,fun U hU=>hr a U hf.1 hac hU⟩) (fun V hb=>(tj h' r W2 R2 sb l ub eb V (m1.below hb) hW hl).mono fun e w1 ⟨SA,he,hs,hb1,hr⟩=>⟨SA,he,hs,hb1,fun U hU=>hr b U hf.2.1 hU⟩))
 obtain⟨FA,hFA⟩:∃FA:Array Value,FA=#[.int .u32 nx,.bool us,.slice A m c1,.slice A2 mq c2]:=⟨_,rfl⟩
 have HFA:=zh hFA;have HSZF:Hid ((Tryz.prog.info? 30).map (·.size)=some FA.toList.length):=zh (by rw[hFA];exact wI);rw[<-hFA]at HSM HRN HRY HSF ⊢;obtain⟨CA,hCA⟩:=af a.arr
 obtain⟨CB,hCB⟩:=af b.arr
 rw[<-hCA]at HVA HSA HNN HNY HRN HRY HMV HCE ⊢;rw[<-hCB]at HVB HSB HNN HNY HMV HCE ⊢;clear hFA hCA hCB ha0 ha1 hc0 hc1 h hq oka okb hnx hm hmq;go_enter Tryz.func3,Tryz.ntmps3;go_upto_region 1 with (fail)
 obtain⟨kb,hkb⟩:=af w.heap.size
 have HKB:=zh hkb;refine ag (fun V=>Bx w kb CA CB FA V/\w.heap.size+3<=V.heap.size) ⟨⟨by rw[hkb];exact((az _ _ _ _ rfl).alloc _).alloc _,by rw[hkb];exact(az _ _ _ _ (by simp)).alloc _,by rw[hkb];exact az _ _ _ _ (by simp),(((Below.refl _ w).alloc ao _).alloc (by simp) _).alloc (by simp;omega) _⟩,by simp⟩ ?_;rintro V ⟨b0,b6⟩;rw[<-hkb];have HX:=zh b0;have HVS:=zh b6;have RF:=zh b0.rf;clear b0 b6 hkb;by_cases hsm:¬fw m mq pn=true
 ·have hsf:fw m mq pn=false:=by simpa using hsm
  rw[hsf]at HSM;clear hsm hsf;go_wp2_with (first
   | (refine wpList_load_mid rfl 30 _ rfl (kb+1+1) 0 rfl FA.toList _ RF.out HUF.out rfl HSZF.out ?_)
   | (go_at_call 6;refine(HSM.out _ HX.out.2.2.2).mono ?_;rintro e w1 ⟨rfl,hb⟩;have HX1:=zh (HX.out.below hb);have HS1:=zh hb.size;clear hb)
   | (go_at_call 7;refine(HKN.out _).mono ?_;rintro e w2 ⟨rfl,hb⟩;have E1:=zh (HX1.out.2.2.2.trans (hb.mono HX1.out.2.2.2.size));clear hb))
  go_ret
  exact⟨rfl,E1.out⟩
 have hst:fw m mq pn=true:=Classical.not_not.1 hsm;rw[hst]at HSM;have HMM:Hid (m<=40/\mq<=10):=zh (by unfold fw at hst;have:=of_decide_eq_true hst;exact⟨this.1,this.2.1⟩);clear hsm hst;go_upto_region 3 with (first
  | (refine wpList_load_mid rfl 30 _ rfl (kb+1+1) 0 rfl FA.toList _ RF.out HUF.out rfl HSZF.out ?_)
  | (go_at_call 6;refine(HSM.out _ HX.out.2.2.2).mono ?_;rintro e w1 ⟨rfl,hb⟩;have HX1:=zh (HX.out.below hb);have HS1:=zh hb.size;clear hb))
 have RA1:=zh HX1.out.ra;have RB1:=zh HX1.out.rb;by_cases hfit:re a b;rotate_left
 ·have HNS:=zh (HNN.out hfit);have HFN:=zh hfit;clear hfit HNN HNY HRN HRY HSF HEG HTP HMV HSM;go_upto_region 4 with (first
   | (refine wpList_load_mid rfl 25 _ rfl kb 0 rfl CA.toList _ RA1.out HUC.out rfl HSA.out ?_)
   | (refine wpList_load_mid rfl 25 _ rfl (kb+1) 0 rfl CB.toList _ RB1.out HUC.out rfl HSB.out ?_)
   | (go_at_call 8;refine(HNS.out _).mono ?_;rintro e w2 ⟨rfl,hb⟩;have HX2:=zh (HX1.out.below hb);clear hb)
   | (refine wpList_store_row rfl _ _ _ rfl w2.heap.size #[.pointer none,.pointer none] rfl rfl 36 _ (ae.new w2 _ _) gF rfl lK ?_))
  obtain⟨sb,hsb⟩:=af w2.heap.size
  refine ag (fun U=>ae U sb 36 #[.pointer none,.pointer none]/\Bx w kb CA CB FA U) ⟨by rw[hsb];exact ae.setRow (ae.new w2 _ _),HX2.out.below (aj ((Below.refl _ w2).alloc ao _) ao _)⟩ ?_;rintro U ⟨b1,b2⟩;rw[<-hsb];have HD:=zh b1;have HXU:=zh b2;have RAU:=zh b2.ra;clear b1 b2 hsb;by_cases h1:a.Valid;rotate_left
  ·rw[decide_eq_false h1]at HVA;clear h1;go_wp2_with (first
    | (refine wpList_load_mid rfl 25 _ rfl kb 0 rfl CA.toList _ RAU.out HUC.out rfl HSA.out ?_)
    | (go_at_call 9;refine(HVA.out _).mono ?_;rintro e u1 ⟨rfl,hb⟩;have HX3:=zh (HXU.out.below hb);have HD3:=zh (HD.out.below hb HD.out.lt);have s0:=HD3.out.cell 0;have s1:=HD3.out.cell 1;simp at s0 s1;clear hb)
    | (go_at_call 7;refine(HKN.out _).mono ?_;rintro e u5 ⟨rfl,hb⟩;have E5:=zh (HX3.out.2.2.2.trans (hb.mono HX3.out.2.2.2.size));clear hb))
   go_ret
   exact⟨rfl,E5.out⟩
  rw[decide_eq_true h1]at HVA;by_cases h2:b.Valid;rotate_left
  ·rw[decide_eq_false h2]at HVB;clear h1 h2;go_wp2_with (first
    | (refine wpList_load_mid rfl 25 _ rfl kb 0 rfl CA.toList _ RAU.out HUC.out rfl HSA.out ?_)
    | (refine aP rfl 25 _ rfl (kb+1) 0 rfl CB.toList _ RBU.out HUC.out rfl HSB.out ?_)
    | (go_at_call 9;have hq:=HX3.out;clear hq;refine(HVB.out _).mono ?_;rintro e u2 ⟨rfl,hb⟩;have HX4:=zh (HX3.out.below hb);have HD4:=zh (HD3.out.below hb HD3.out.lt);have s0:=HD4.out.cell 0;have s1:=HD4.out.cell 1;simp at s0 s1;clear hb)
    | (go_at_call 9;refine(HVA.out _).mono ?_;rintro e u1 ⟨rfl,hb⟩;have HX3:=zh (HXU.out.below hb);have HD3:=zh (HD.out.below hb HD.out.lt);have RBU:=zh HX3.out.rb;clear hb)
    | (go_at_call 7;refine(HKN.out _).mono ?_;rintro e u5 ⟨rfl,hb⟩;have E5:=zh (HX4.out.2.2.2.trans (hb.mono HX4.out.2.2.2.size));clear hb))
   go_ret
   exact⟨rfl,E5.out⟩
  rw[decide_eq_true h2]at HVB;obtain⟨bb,hbb⟩:∃q,q=a.b:=⟨_,rfl⟩
  obtain⟨bd,hbd⟩:∃q,q=a.d:=⟨_,rfl⟩
  obtain⟨cb,hcb⟩:∃q,q=b.b:=⟨_,rfl⟩
  obtain⟨cd,hcd⟩:∃q,q=b.d:=⟨_,rfl⟩
  have hno:¬(¬bd=cd/\bb=cb):=fun hh=>HFN.out ⟨h1,h2,by rw[<-hbd,<-hcd];exact hh.1,by rw[<-hbb,<-hcb];exact hh.2⟩;rw[<-hbb,<-hbd,<-hcb,<-hcd]at HCE;clear hbb hbd hcb hcd h1 h2;by_cases hd:bd=cd
  ·have hne:(bd != cd)=false:=by rw[hd];simp
   have HNE:=zh hne;clear hd hno hne;go_wp2_with (first
    | (refine wpList_load_mid rfl 25 _ rfl kb 0 rfl CA.toList _ RAU.out HUC.out rfl HSA.out ?_)
    | (refine aP rfl 25 _ rfl (kb+1) 0 rfl CB.toList _ RBU.out HUC.out rfl HSB.out ?_)
    | (go_at_call 9;have hq:=HX3.out;clear hq;refine(HVB.out _).mono ?_;rintro e u2 ⟨rfl,hb⟩;have HX4:=zh (HX3.out.below hb);have HD4:=zh (HD3.out.below hb HD3.out.lt);have s0:=HD4.out.cell 0;have s1:=HD4.out.cell 1;simp at s0 s1;have x0:=(HX4.out.1.cell 0).trans HCE.out.1;have x1:=(HX4.out.1.cell 1).trans HCE.out.2.1;have y0:=(HX4.out.2.1.cell 0).trans HCE.out.2.2.1;have y1:=(HX4.out.2.1.cell 1).trans HCE.out.2.2.2;have hne:=HNE.out;clear hb)
    | (go_at_call 9;refine(HVA.out _).mono ?_;rintro e u1 ⟨rfl,hb⟩;have HX3:=zh (HXU.out.below hb);have HD3:=zh (HD.out.below hb HD.out.lt);have RBU:=zh HX3.out.rb;clear hb)
    | (go_at_call 7;refine(HKN.out _).mono ?_;rintro e u5 ⟨rfl,hb⟩;have E5:=zh (HX4.out.2.2.2.trans (hb.mono HX4.out.2.2.2.size));clear hb))
   go_ret
   exact⟨rfl,E5.out⟩
  ·have hne:(bd != cd)=true:=by simpa using hd
   have hbe:(bb == cb)=false:=by
    have:¬bb=cb:=fun e=>hno ⟨hd,e⟩;simpa using this
   have HNE:=zh (And.intro hne hbe);clear hd hno hne hbe;go_wp2_with (first
    | (refine wpList_load_mid rfl 25 _ rfl kb 0 rfl CA.toList _ RAU.out HUC.out rfl HSA.out ?_)
    | (refine aP rfl 25 _ rfl (kb+1) 0 rfl CB.toList _ RBU.out HUC.out rfl HSB.out ?_)
    | (go_at_call 9;have hq:=HX3.out;clear hq;refine(HVB.out _).mono ?_;rintro e u2 ⟨rfl,hb⟩;have HX4:=zh (HX3.out.below hb);have HD4:=zh (HD3.out.below hb HD3.out.lt);have s0:=HD4.out.cell 0;have s1:=HD4.out.cell 1;simp at s0 s1;have x0:=(HX4.out.1.cell 0).trans HCE.out.1;have x1:=(HX4.out.1.cell 1).trans HCE.out.2.1;have y0:=(HX4.out.2.1.cell 0).trans HCE.out.2.2.1;have y1:=(HX4.out.2.1.cell 1).trans HCE.out.2.2.2;have hne:=HNE.out.1;have hbe:=HNE.out.2;clear hb)
    | (go_at_call 9;refine(HVA.out _).mono ?_;rintro e u1 ⟨rfl,hb⟩;have HX3:=zh (HXU.out.below hb);have HD3:=zh (HD.out.below hb HD.out.lt);have RBU:=zh HX3.out.rb;clear hb)
    | (go_at_call 7;refine(HKN.out _).mono ?_;rintro e u5 ⟨rfl,hb⟩;have E5:=zh (HX4.out.2.2.2.trans (hb.mono HX4.out.2.2.2.size));clear hb))
   go_ret
   exact⟨rfl,E5.out⟩
 have HNS:=zh (HNY.out hfit);have HMV2:=zh (HMV.out hfit);have hv1:=hfit.1;have hv2:=hfit.2.1;have hne:(a.d != b.d)=true:=by simpa using hfit.2.2.1
 rw[decide_eq_true hv1]at HVA;rw[decide_eq_true hv2]at HVB;obtain⟨bb,hbb⟩:∃q,q=a.b:=⟨_,rfl⟩
 obtain⟨bd,hbd⟩:∃q,q=a.d:=⟨_,rfl⟩
 obtain⟨cd,hcd⟩:∃q,q=b.d:=⟨_,rfl⟩
 rw[<-hfit.2.2.2]at HCE;rw[<-hbb,<-hbd,<-hcd]at HCE;rw[<-hbd,<-hcd]at hne;have HNE:=zh hne;have HV1:=zh hv1;clear hfit hv1 hv2 hne hbb hbd hcd HNN HNY HMV HSM;go_upto_region 4 with (first
  | (refine wpList_load_mid rfl 25 _ rfl kb 0 rfl CA.toList _ RA1.out HUC.out rfl HSA.out ?_)
  | (refine wpList_load_mid rfl 25 _ rfl (kb+1) 0 rfl CB.toList _ RB1.out HUC.out rfl HSB.out ?_)
  | (go_at_call 8;refine(HNS.out _).mono ?_;rintro e w2 ⟨g,h,X,rfl,hS,hb⟩;have HX2:=zh (HX1.out.below hb);have HSR:=zh hS;have HS2:=zh hb.size;clear hb hS;unfold aG)
  | (refine wpList_store_row rfl _ _ _ rfl w2.heap.size (aG g h) rfl rfl 36 _ (ae.new w2 _ _) (cO g h) rfl (fJ g h) ?_))
 obtain⟨sb,hsb⟩:=af w2.heap.size
 obtain⟨_,_,W2,R2,mb,l,ub,eb,_,hRx,_,hR2,_⟩:=HSR.out;have HR2:=zh hR2;refine ag (fun U=>ae U sb 36 (aG g h)/\Bx w kb CA CB FA U/\eI U h (ls b X) W2 R2 mb l ub eb/\w2.heap.size<=U.heap.size) ⟨by rw[hsb];exact ae.setRow (ae.new w2 _ _),HX2.out.below (aj ((Below.refl _ w2).alloc ao _) ao _),hRx.below (aj ((Below.refl _ w2).alloc ao _) ao _),(aj ((Below.refl _ w2).alloc ao _) ao _).size⟩ ?_;rintro U ⟨b1,b2,b3,b4⟩;rw[<-hsb];have HD:=zh b1;have HXU:=zh b2;have RAU:=zh b2.ra;have HRX:=zh b3;have HSBW:=zh (show(∀k,W2 k->k < sb)/\(∀k,R2 k->k < sb)from by rw[hsb];exact⟨hRx.win,hRx.rin⟩);have HSBK:=zh (show kb+2 < sb from by rw[hsb];have h1:=HVS.out;have h2:=HS1.out;have h3:=HS2.out;have h4:=HKB.out;omega);clear b1 b2 b3 b4 hsb hRx hR2;go_upto_region 7 with (first
  | (refine wpList_load_mid rfl 25 _ rfl kb 0 rfl CA.toList _ RAU.out HUC.out rfl HSA.out ?_)
  | (refine aP rfl 25 _ rfl (kb+1) 0 rfl CB.toList _ RBU.out HUC.out rfl HSB.out ?_)
  | (go_at_call 9;have hq:=HX3.out;clear hq;refine(HVB.out _).mono ?_;rintro e u2 ⟨rfl,hb⟩;have HX4:=zh (HX3.out.below hb);have HD4:=zh (HD3.out.below hb HD3.out.lt);have HR4:=zh (HR3.out.below hb);have x0:=(HX4.out.1.cell 0).trans HCE.out.1;have x1:=(HX4.out.1.cell 1).trans HCE.out.2.1;have y0:=(HX4.out.2.1.cell 0).trans HCE.out.2.2.1;have y1:=(HX4.out.2.1.cell 1).trans HCE.out.2.2.2;have hne:=HNE.out;clear hb)
  | (go_at_call 9;refine(HVA.out _).mono ?_;rintro e u1 ⟨rfl,hb⟩;have HX3:=zh (HXU.out.below hb);have HD3:=zh (HD.out.below hb HD.out.lt);have HR3:=zh (HRX.out.below hb);have RBU:=zh HX3.out.rb;clear hb))
 clear x0 x1 y0 y1 hne;have RA4:=zh HX4.out.ra;have RF4:=zh HX4.out.rf;by_cases hfo:sR a.ac nx us m ct pn mq qn;rotate_left
 ·have HRS:=zh (HRN.out hfo);clear hfo HRN HRY;go_wp2_with (first
   | (refine wpList_load_mid rfl 25 _ rfl kb 0 rfl CA.toList _ RA4.out HUC.out rfl HSA.out ?_)
   | (refine wpList_load_mid rfl 30 _ rfl (kb+1+1) 0 rfl FA.toList _ RF4.out HUF.out rfl HSZF.out ?_)
   | (go_at_call 10;refine(HRS.out _ HX4.out.2.2.2).mono ?_;rintro e u3 ⟨rfl,hb⟩;have HX5:=zh (HX4.out.below hb);have HD5:=HD4.out.below hb HD4.out.lt;have s0:=HD5.cell 0;have s1:=HD5.cell 1;simp[aG]at s0 s1;clear hb HD5)
   | (go_at_call 7;refine(HKN.out _).mono ?_;rintro e u5 ⟨rfl,hb⟩;have E5:=zh (HX5.out.2.2.2.trans (hb.mono HX5.out.2.2.2.size));clear hb))
  go_ret
  exact⟨rfl,E5.out⟩
 have HRS:=zh (HRY.out HV1.out hfo (by have:=HMM.out;omega) (by have:=HMM.out;omega));have HFO:=zh hfo;clear hfo HRN HRY;go_upto_region 12 with (first
  | (refine wpList_load_mid rfl 25 _ rfl kb 0 rfl CA.toList _ RA4.out HUC.out rfl HSA.out ?_)
  | (refine wpList_load_mid rfl 30 _ rfl (kb+1+1) 0 rfl FA.toList _ RF4.out HUF.out rfl HSZF.out ?_)
  | (go_at_call 10;refine(HRS.out _ HX4.out.2.2.2).mono ?_;rintro e u3 ⟨g5,W5,R5,rfl,hT,hW5,hR5,hb⟩;have HX5:=zh (HX4.out.below hb);have HD5:=zh (HD4.out.below hb HD4.out.lt);have HT5:=zh hT;have HW5:=zh (And.intro hW5 hR5);have HR5:=zh (HR4.out.below hb);have s0:=HD5.out.cell 0;have s1:=HD5.out.cell 1;simp[aG]at s0 s1;clear hb hT hW5 hR5))
 have f0:=HD5.out.frozen 0;obtain⟨s5,hs5⟩:=af (eB a (bi nx us) m ct pn z mq qn y)
 have HS5:=zh hs5;rw[<-hs5]at HT5 HTP;rw[<-hs5]at HEG;have hsb4:sb < u2.heap.size:=HD4.out.lt;have HK7:=zh ((aa.refl (F:=fun k=>k=sb) (w:=u3)).setCell (p:=⟨sb,0,none⟩) rfl (.pointer (some ⟨g5,0,none⟩)));have HD7:=zh (show ae (u3.setCell ⟨sb,0,none⟩ (.pointer (some ⟨g5,0,none⟩))) sb 36 (aG g5 h)from HD5.out.set_ 0 (.pointer (some ⟨g5,0,none⟩)));have HX7:=zh (HX5.out.keepF HK7.out (fun k hk=>by rw[hk];exact HSBK.out) (by rw[HKB.out];exact Nat.le_refl _));have HT7:=zh (HT5.out.keepF HK7.out (fun k hk=>⟨fun hw=>by have:=HW5.out.1 k hw;omega,fun hr=>by have:=HW5.out.2 k hr;omega⟩));have HR7:=zh (HR5.out.keepF HK7.out (fun k hk=>⟨fun hw=>by have:=HSBW.out.1 k hw;omega,fun hr=>by have:=HSBW.out.2 k hr;omega⟩));clear hs5 hsb4;go_upto_region 13 with (fail)
 refine ag (fun Y=>ae Y sb 36 (aG g5 h)/\Bx w kb CA CB FA Y/\dK Y g5 s5 W5 R5/\eI Y h (ls b X) W2 R2 mb l ub eb/\u3.heap.size<=Y.heap.size) ⟨HD7.out,HX7.out,HT7.out,HR7.out,HK7.out.size⟩ ?_;rintro Y ⟨b1,b2,b3,b4,b5⟩;have HDY:=zh b1;have HXY:=zh b2;have HTY:=zh b3;have HRY:=zh b4;have HSY:=zh b5;have RSY:=zh (rv b1);have RAY:=zh b2.ra;have RBY:=zh b2.rb;have hPl:s5.P.length<=1000000/\s5.Q.length<=1000000/\a.ac=s5.C.ac:=by
  have:=HMM.out;rw[HS5.out];refine⟨?_,?_,rfl⟩
  ·show(cz m ct pn z).length<=_;simp[cz];omega
  ·show(ee mq qn y).length<=_;simp[ee];omega
 have HMVY:=zh (HMV2.out s5 g5 h (ls b X) W5 R5 W2 R2 mb l ub eb Y b3 b4 (HTP.out HFO.out) hPl.1 hPl.2.1 (rL b X) (Nat.zero_le _) hPl.2.2);have HSSY:=zh (show(Tryz.prog.info? 36).map (·.size)=some (aG g5 h).toList.length by kernel_rfl);clear b1 b2 b3 b4 b5 hPl s0 s1 f0 HK7 HD7 HX7 HT7 HR7;go_upto_region 14 with (first
  | (refine wpList_load_mid rfl 36 _ rfl sb 0 rfl (aG g5 h).toList _ RSY.out HUS.out rfl HSSY.out ?_)
  | (refine wpList_load_mid rfl 25 _ rfl kb 0 rfl CA.toList _ RAY.out HUC.out rfl HSA.out ?_)
  | (refine wpList_load_mid rfl 25 _ rfl (kb+1) 0 rfl CB.toList _ RBY.out HUC.out rfl HSB.out ?_)
  | (go_at_call 11;refine(HMVY.out).mono ?_;rintro e w8 ⟨g8,h8,X8,rfl,hS,hb⟩;have HX8:=zh (HXY.out.below hb);have HD8:=zh (HDY.out.below hb HDY.out.lt);have HT8:=zh (HTY.out.below hb);have HSR8:=zh hS;have HS8:=zh hb.size;clear hb hS;unfold aG)
  | (refine wpList_store_row rfl _ _ _ rfl w8.heap.size (aG g8 h8) rfl rfl 36 _ (ae.new w8 _ _) (cO g8 h8) rfl (fJ g8 h8) ?_))
 obtain⟨s2,hs2⟩:=af w8.heap.size
 obtain⟨W8,R8,_,_,_,_,_,_,hT8,_,hB8,_,_⟩:=HSR8.out;have hb9:∀cs,Below w8.heap.size w8 ((w8.alloc (.cells #[.pointer none,.pointer none] 36)).setRow w8.heap.size cs):=fun cs=>aj ((Below.refl _ w8).alloc ao _) ao _;refine ag (fun Z=>ae Z s2 36 (aG g8 h8)/\ae Z sb 36 (aG g5 h)/\Bx w kb CA CB FA Z/\dK Z g5 s5 W5 R5/\dK Z g8 (s5.moved a) W8 R8/\w8.heap.size<=Z.heap.size) ⟨by rw[hs2];exact ae.setRow (ae.new w8 _ _),HD8.out.below (hb9 _) HD8.out.lt,HX8.out.below (hb9 _),HT8.out.below (hb9 _),hT8.below (hb9 _),(hb9 _).size⟩ ?_;rintro Z ⟨b0,b1,b2,b3,b4,b5⟩;have HD9:=zh b0;have HE9:=zh b1;have HX9:=zh b2;have HT9:=zh b3;have HU9:=zh b4;have hWb:∀k,(W8 k\/R8 k)->Y.heap.size<=k/\k < s2:=fun k hk=>⟨hB8 k hk,by
  rw[hs2];obtain⟨_,_,_,_,_,_,_,_,t⟩:=hT8;rcases hk with hk | hk
  ·exact t.win k hk
  ·exact t.rin k hk⟩
 have HWB:=zh hWb;have HZS:=zh (show s2 < Z.heap.size from b0.lt);have HYZ:=zh (show Y.heap.size<=Z.heap.size from ba HS8.out b5);have h5:∀k,W5 k\/R5 k->k < Y.heap.size:=fun k hk=>by
  obtain⟨_,_,_,_,_,_,_,_,t⟩:=HTY.out;rcases hk with hk | hk
  ·exact t.win k hk
  ·exact t.rin k hk
 have HW5Y:=zh h5;have HSBY:=zh (show sb < Y.heap.size from HDY.out.lt);have c0:=b0.cell 0;have c1:=b0.cell 1;simp[aG]at c0 c1;rw[<-hs2];clear b0 b1 b2 b3 b4 b5 hWb h5 hB8 hT8 hb9 hs2;obtain⟨s8,hs8⟩:=af (s5.moved a)
 rw[<-hs8]at HU9;have hfin:s8.Fine/\s8.Q.length<=10/\s8.P.length<=40/\gB s8.comp 0:=by
  have:=HMM.out;rw[hs8,HS5.out];refine⟨qg HOK.out HV1.out,?_,?_,xw 0 (Int.le_refl _)⟩
  ·show((ee mq qn y).map _).length<=_;simp[ee];omega
  ·show((cz m ct pn z).map _).length<=_;simp[cz];omega
 have HFI:=zh hfin;have hbA:Below Z.heap.size Z (Z.alloc (.cells #[.int .u8 1] 5)):=(Below.refl _ Z).alloc ao _;have HBA:=zh hbA;have hrA:au (Z.alloc (.cells #[.int .u8 1] 5)) (Z.alloc (.cells #[.int .u8 1] 5)).heap.size (some ⟨Z.heap.size,0,none⟩) 1 (fun j=>.int .u8 ((fun _=>1:Nat->Int) j)):=fun _=>⟨Z.heap.size,0,rfl,by simp,fun j hj=>by
  obtain rfl:j=0:=by omega
  exact ae.cell (show ae (Z.alloc (.cells #[.int .u8 1] 5)) Z.heap.size 5 #[.int .u8 1]from ae.new _ _ _) 0⟩
 have HSU:=zh (sc g8 s8 W8 R8 _ (HU9.out.below hbA) hfin.1 (by have:=hfin.2.1;omega) 0 (by decide) (by decide) (some ⟨Z.heap.size,0,none⟩) 1 1 (fun _=>1) ⟨hrA,fun j hj=>by decide,fun a ha _ hw=>by cases ha;have h1:=(HWB.out _ (.inl hw)).2;have h2:=HZS.out;have h1':Z.heap.size < s2:=h1;omega⟩ (by decide));obtain⟨s9,hs9⟩:=af ((s8.submit 0 1 (fun _=>1)).2)
 obtain⟨e9,he9⟩:=af ((s8.submit 0 1 (fun _=>1)).1)
 rw[<-hs9,<-he9]at HSU;have HS9:=zh hs9;clear hfin hbA hrA hs8 hs9 he9;go_upto_region 17 with (first
  | (go_at_call 12;refine(HSU.out).mono ?_;rintro e u8 ⟨rfl,hO⟩;have HO8:=zh hO;clear hO))
 obtain⟨W9,R9,hU10,hW9,hR9,hK9⟩:=HO8.out;have hzs:=HZS.out;have hys:=HYZ.out;have hza:=HBA.out.size;have hW9b:∀k,W9 k\/R9 k->Y.heap.size<=k/\k ≠ s2:=fun k hk=>by
  rcases hk with hk | hk
  ·rcases hW9 k hk with h1 | h1
   ·have:=HWB.out k (.inl h1);omega
   ·omega
  ·rcases hR9 k hk with h1 | h1
   ·have:=HWB.out k (.inr h1);omega
   ·omega
 have hW8b:∀k,W8 k->Y.heap.size<=k/\k < s2:=fun k hk=>HWB.out k (.inl hk);have hkA:aa W8 Z u8:=(aa.of_below (F:=W8) HBA.out).trans hK9 (fun _ _ h=>h);have hsbY:=HSBY.out;have h5Y:=HW5Y.out;have hkbs:=HSBK.out;have hD10:=hkA.blk HD9.out (fun hf=>by have:=(hW8b _ hf).2;omega);have hE10:=hkA.blk HE9.out (fun hf=>by have:=(hW8b _ hf).1;omega);have hX10:=HX9.out.keepF hkA (fun k hf=>by have:=(hW8b _ hf).1;omega) (by rw[HKB.out];exact Nat.le_refl _);have hT10:=HT9.out.keepF hkA (fun k hf=>⟨fun hw=>by have h1:=(hW8b _ hf).1;have h2:=h5Y k (.inl hw);omega,fun hr=>by have h1:=(hW8b _ hf).1;have h2:=h5Y k (.inr hr);omega⟩);have d0:=hD10.cell 0;simp[aG]at d0;have HD10:=zh hD10;have HE10:=zh hE10;have HX10:=zh hX10;have HT10:=zh hT10;have HW9B:=zh hW9b;have hf9:s9.Fine/\s9.P.length<=1000000/\gB s9.comp 0:=by
  have hn:0<=s8.now:=by
   obtain⟨_,_,_,_,_,_,_,_,t⟩:=HU9.out
   exact t.now0.1
  rw[HS9.out];refine⟨HFI.out.1.submit hn _ _ _,?_,?_⟩
  ·have h1:(s8.submit 0 1 (fun _=>1)).2.P=s8.P:=by
    unfold TS.submit
    (repeat' split)<;>rfl
   rw[h1];have:=HFI.out.2.2.1;omega
  ·have h1:(s8.submit 0 1 (fun _=>1)).2.comp=s8.comp:=by
    unfold TS.submit
    (repeat' split)<;>rfl
   rw[h1]
   exact HFI.out.2.2.2
 have HNX:=zh (ut g8 s9 W9 R9 u8 hU10 hf9.1 0 (by decide) (by decide) (ov g8 s9.C hf9.1.ok hf9.1.val) 0 (by decide) hf9.2.2 hf9.2.1);obtain⟨r9,hr9⟩:=af (s9.sendK 0)
 rw[<-hr9]at HNX;clear hzs hys hza hW9b hW8b hkA hsbY h5Y hkbs hD10 hE10 hX10 hT10 hf9 hr9 hU10 hW9 hR9 hK9 c0 c1;go_upto_region 18 with (first
  | (go_at_call 13;refine(HNX.out).mono ?_;rintro e u9 ⟨A9,c9,W10,R10,rfl,hc9,hr9,hT10,hW10,hR10,hK10,hA10⟩;have HK10:=zh hK10;clear hc9 hr9 hT10 hW10 hR10 hK10 hA10))
 clear d0;have hW9b:=HW9B.out;have hsbY:=HSBY.out;have h5Y:=HW5Y.out;have hkbs:=HSBK.out;have HE11:=zh (HK10.out.blk HE10.out (fun hf=>by have:=(hW9b _ (.inl hf)).1;omega));have HX11:=zh (HX10.out.keepF HK10.out (fun k hf=>by have:=(hW9b _ (.inl hf)).1;omega) (by rw[HKB.out];exact Nat.le_refl _));have HT11:=zh (HT10.out.keepF HK10.out (fun k hf=>⟨fun hw=>by have h1:=(hW9b _ (.inl hf)).1;have h2:=h5Y k (.inl hw);omega,fun hr=>by have h1:=(hW9b _ (.inl hf)).1;have h2:=h5Y k (.inr hr);omega⟩));have hmm:=HMM.out;have hmx:=HMX.out;have HEX:=zh (fun V (hb:Below u9.heap.size u9 V)=>HEG.out HFO.out.used (by omega) (by omega) g5 W5 R5 V (HT11.out.below hb) (HX11.out.below hb).2.2.2);have HSFM:=zh (HSF.out hmx.1 hmx.2);have HRP:=zh (fun V (hb:Below u9.heap.size u9 V)=>oe g5 s5 W5 R5 V (HT11.out.below hb) (by rw[HS5.out];show(cz m ct pn z).length<=_;simp[cz];omega));have hrps:fA s5.P=m:=by rw[HS5.out];exact tW m ct pn z
 rw[hrps]at HRP;have HC:=zh (show ∀W',Below u9.heap.size u9 W'->W'.cell? ⟨sb,0,none⟩=some (.pointer (some ⟨g5,0,none⟩))/\W'.cell? ⟨kb+1+1,2,none⟩=some (.slice A m c1)from fun W' hW=>by
  have h1:=(HE11.out.below hW HE11.out.lt).cell 0;have h2:=(HX11.out.below hW).2.2.1.cell 2;rw[HFA.out]at h2;simp[aG]at h1
  exact⟨h1,by simpa using h2⟩)
 have HRF:=zh (show ∀W',Below u9.heap.size u9 W'->W'.rangeAt (kb+1+1) 0 FA.toList from fun W' hW=>(HX11.out.below hW).rf);clear hW9b hsbY h5Y hkbs hmm hmx hrps;refine wp_region_held_drew (S:=fun w'=>Below u9.heap.size u9 w') (by kernel_rfl) ((Below.refl _ u9).drew) (fun hHeld=>?_);obtain⟨v0,hv0⟩:=af u9.drew
 rw[<-hv0];rw[<-hv0]at hHeld;clear hv0;refine bF (i:=0) (x:=some 110) (v:=.pointer (some ⟨sb,0,none⟩)) rfl ?_;refine ed (i:=1) (x:=some 111) (v:=.pointer (some ⟨g5,0,none⟩)) rfl (.inl ⟨by rfl,fun W hW=>(by have:=(HC.out W hW).1;go_simp)⟩) ?_;refine' ed (i:=3) (x:=some 113) (v:=_) rfl (yieldsIf_load_mid (by rfl) _ _ rfl (kb+1+1) 0 rfl FA.toList _ (fun W hW=>HRF.out W hW) HUF.out rfl HSZF.out) ?_;refine bc (i:=2) (x:=some 112) rfl fun K hK=>?_;go_simp;refine(HEX.out _ hHeld).mono ?_;rintro e v1 ⟨pA,pc9,qA,qd9,rfl,hs1,hs2,hbk⟩;dsimp only;have HSC:=zh (And.intro hs1 hs2);clear hs1 hs2;refine hK.out _ _ (hHeld.trans (hbk.mono hHeld.size)) (fun hHeld=>?_);clear hK K hbk
 try simp only[Act.put,qa,qb,qc]
 refine bc (i:=4) (x:=some 114) rfl fun K hK=>?_;go_simp;refine(HSFM.out pA pc9 qA qd9 _ HSC.out.1 HSC.out.2).mono ?_;rintro e v2 ⟨rfl,hbk⟩;dsimp only;refine hK.out _ _ (hHeld.trans (hbk.mono hHeld.size)) (fun hHeld=>?_);clear hK K hbk
 try simp only[Act.put,qa,qb,qc]
 refine dF (i:=5) (x:=some 115) (v:=.bool true) rfl ?_;refine bF (i:=6) (x:=some 116) (v:=.pointer (some ⟨sb,0,none⟩)) rfl ?_;refine ed (i:=7) (x:=some 117) (v:=.pointer (some ⟨g5,0,none⟩)) rfl (.inl ⟨by rfl,fun W hW=>(by have:=(HC.out W hW).1;go_simp)⟩) ?_;refine bF (i:=9) (x:=some 119) (v:=.pointer (some ⟨kb+1+1,2,none⟩)) rfl ?_;refine ed (i:=10) (x:=some 120) (v:=.slice A m c1) rfl (.inl ⟨by rfl,fun W hW=>(by have:=(HC.out W hW).2;go_simp)⟩) ?_;refine bF (i:=11) (x:=some 121) (v:=.int .i64 (m:Int)) rfl ?_;refine bc (i:=8) (x:=some 118) rfl fun K hK=>?_;go_simp;refine(HRP.out _ hHeld).mono ?_;rintro e v3 ⟨rfl,hbk⟩;dsimp only;refine hK.out _ _ (hHeld.trans (hbk.mono hHeld.size)) (fun hHeld=>?_);clear hK K hbk
 try simp only[Act.put,qa,qb,qc]
 refine bF (i:=12) (x:=some 122) (v:=.bool true) rfl ?_;refine bF (i:=13) (x:=some 123) (v:=.bool true) rfl ?_;refine dF (i:=14) (x:=some 124) (v:=.bool true) rfl ?_;refine bc (i:=15) (x:=some 125) rfl fun K hK=>?_;go_simp;refine(HKN.out _).mono ?_;rintro e v4 ⟨rfl,hbk⟩;dsimp only;refine hK.out _ _ (hHeld.trans (hbk.mono hHeld.size)) (fun hHeld=>?_);clear hK K hbk
 try simp only[Act.put,qa,qb,qc]
 refine bF (i:=16) (x:=some 126) (v:=.bool true) rfl ?_;refine dF (i:=17) (x:=some 6) (v:=.bool true) rfl ?_;refine wpAnyH_done (by kernel_rfl) ?_ _;have HFIN:=zh (HX11.out.2.2.2.trans (hHeld.mono HX11.out.2.2.2.size));clear hHeld;go_wp2;go_ret
 exact⟨rfl,HFIN.out⟩
end Go.Proofs.YtiiojpnckbglcaaGreat

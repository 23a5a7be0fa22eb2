import Derived.Test.YtbfpdnnphdagjaaGreatMTBy
import Derived.Test.YtbfpdnnphdagjaaGreatTMy
import Derived.Test.YtbfpdnnphdagjaaGreatNAy
import Derived.Test.YtbfpdnnphdagjaaGreatMVy
import Derived.Test.YtbfpdnnphdagjaaGreatSCy
import Derived.Test.YtbfpdnnphdagjaaGreatMN1y
import Derived.Test.YtbfpdnnphdagjaaGreatMMXy
set_option maxRecDepth 100000
set_option maxHeartbeats 3200000
set_option linter.unusedVariables false
set_option linter.unusedSimpArgs false
namespace Go.Proofs.YtbfpdnnphdagjaaGreat
open Go.RowKit
attribute [local go_sem ↓] Go.wp_at_zero Go.wp_at_succ
def qd (D:Int) (L:Nat) (B:Nat->Bool) (x:Int):Bool:=if x < D then true else if x=D then false else if x-D-1 < L then B (x-D-1).toNat else false
def PK (cf:Int->Bool) (P:List PV) (k:Nat):List PV:=(P.take k).filter (fun e=>!cf e.ct)++P.drop k
def NK (cf:Int->Bool) (P:List PV) (k:Nat):Nat:=((P.take k).filter (fun e=>cf e.ct)).length
def zc (P:List PV):Prop:=∀(i j:Nat) (a b:PV),i < j->P[i]? = some a->P[j]? = some b->a.ct < b.ct
section
variable {cf:Int->Bool} {P:List PV} {k:Nat} {e:PV}
theorem xT:PK cf P 0=P:=by simp[PK]
theorem yN:NK cf P 0=0:=by simp[NK]
theorem nK (he:P[k]? = some e):P.drop k=e :: P.drop (k+1):=by
 obtain⟨h1,h2⟩:=List.getElem?_eq_some_iff.1 he;rw[List.drop_eq_getElem_cons h1,h2]
theorem jR (he:P[k]? = some e):P.take (k+1)=P.take k++[e]:=by rw[List.take_add_one,he];rfl
theorem Bb (he:P[k]? = some e) (h:cf e.ct=false):PK cf P (k+1)=PK cf P k:=by
 unfold PK;rw[jR he,List.filter_append,nK he];simp[h]
theorem AO (he:P[k]? = some e) (h:cf e.ct=false):NK cf P (k+1)=NK cf P k:=by
 unfold NK;rw[jR he,List.filter_append];simp[h]
theorem zR (he:P[k]? = some e) (h:cf e.ct=true):NK cf P (k+1)=NK cf P k+1:=by
 unfold NK;rw[jR he,List.filter_append];simp[h]
theorem AB (he:P[k]? = some e) (h:cf e.ct=true) (hi:zc P):∃i,(PK cf P k)[i]? = some e/\(∀j,j < i->∀x,(PK cf P k)[j]? = some x->x.ct ≠ e.ct)/\(PK cf P k).eraseIdx i=PK cf P (k+1):=by
 refine⟨((P.take k).filter (fun e=>!cf e.ct)).length,?_,fun j hj x hx=>?_,?_⟩
 ·unfold PK;rw[List.getElem?_append_right ay,Nat.sub_self,nK he]
  rfl
 ·unfold PK at hx;rw[List.getElem?_append_left hj]at hx;have hm:=(List.mem_filter.1 (List.mem_of_getElem? hx)).1;obtain⟨i,hi2⟩:=List.getElem?_of_mem hm;have hik:i < k:=by
   have:=(List.getElem?_eq_some_iff.1 hi2).1;simp at this;omega
  rw[List.getElem?_take,if_pos hik]at hi2;have:=hi i k x e hik hi2 he;omega
 ·unfold PK;rw[jR he,List.filter_append,nK he];simp[h,List.eraseIdx_append_of_length_le]
end
theorem r8 (m:Nat) (z:Nat->Int) (hz:∀j,j < m->0<=z j/\z j < 256):0<=ce m z/\ce m z < 4294967296:=by
 unfold ce
 split
 ·rename_i h;unfold bJ
  split
  ·rename_i h2;have h4:¬m-1 < 4:=fun h4=>by unfold dA at h2;rw[if_pos h4]at h2;cases h2
   have:=nm (dz z) (m-1) (fun j hj=>hz (1+j) (by omega)) 4 (by omega);omega
  ·omega
 ·omega
theorem yo (m:Nat) (z:Nat->Int):fm m z<=2047:=by
 unfold fm
 split
 ·unfold dE
  split
  ·rename_i h2;unfold dA at h2
   split at h2
   ·cases h2
   ·split at h2
    ·cases h2
    ·split at h2
     ·cases h2
     ·omega
  ·omega
 ·omega
theorem yc (a:Int) (b:Bool) (A C:Option Addr) (n c m d:Nat) (w:World):(Instr.field 108 (.agg #[.int .u32 a,.bool b,.slice A n c,.slice C m d]) 2).run Tryz.prog w=.ok (.slice A n c) w:=by kernel_rfl
def AI (w wE:World) (g:Nat) (s:TS) (W R:Nat->Prop) (P:List PV) (wr:World):Prop:=
 ∃W' R',eS wr g { s with P:=P } W' R'/\(∀j,W' j->W j\/wE.heap.size<=j)/\(∀j,R' j->R j\/wE.heap.size<=j)/\aa W w wr/\aa W wE wr
theorem AI.below {w wE:World} {g:Nat} {s:TS} {W R:Nat->Prop} {P:List PV} {wr w2:World} (h:AI w wE g s W R P wr) (hb:Below wr.heap.size wr w2):AI w wE g s W R P w2:=by
 obtain⟨W',R',h1,h2,h3,h4,h5⟩:=h
 exact⟨W',R',h1.below hb,h2,h3,h4.more hb,h5.more hb⟩
theorem AI.step {w wE:World} {g:Nat} {s:TS} {W R:Nat->Prop} {P:List PV} {wr:World} (h:AI w wE g s W R P wr) (hwe:w.heap.size<=wE.heap.size) (x:Int) (i:Nat) (e0:PV) (he:P[i]? = some e0) (hx:e0.ct=x) (hno:∀j,j < i->∀e,P[j]? = some e->e.ct ≠ x) :
  Calls Tryz.prog 60 #[.pointer (some ⟨g,0,none⟩),.int .u32 x] wr fun e w2=>e=.returned (.int .i64 0)/\AI w wE g s W R (P.eraseIdx i) w2:=by
 obtain⟨W',R',h1,h2,h3,h4,h5⟩:=h;refine(qw g { s with P:=P } W' R' wr h1 x i e0 he hx hno).mono ?_;rintro e w2 ⟨rfl,W2,R2,k1,k2,k3,k4⟩;have hs:=h5.size;refine⟨rfl,W2,R2,k1,fun j hj=>?_,fun j hj=>?_,h4.trans k4 (fun b hb hw=>?_),h5.trans k4 (fun b hb hw=>?_)⟩
 ·rcases k2 j hj with h | h
  ·exact h2 j h
  ·exact .inr (by omega)
 ·rcases k3 j hj with h | h
  ·exact h3 j h
  ·exact .inr (by omega)
 ·rcases h2 b hw with h | h
  ·exact h
  ·omega
 ·rcases h2 b hw with h | h
  ·exact h
  ·omega
theorem rT (g:Nat) (s:TS) (W R:Nat->Prop) (w:World) (h:eS w g s W R) (hP:s.P.length<=1000000/\s.Q.length<=1000000) (hin:zc s.P) (m c:Nat) (A:Option Addr) (z:Nat->Int) (hm:m<=140737488355328) (hmc:m<=c) (hz:∀j,j < m->0<=z j/\z j < 256) (hr:aD w w.heap.size A m (fun j=>.int .u8 (z j))) (he:gP m z=0) (hk:ei m z=0) (cf:Int->Bool) (hcf:cf=qd (ce m z) (fm m z) (b9 (pq (dz z)))) :
  Calls Tryz.prog 37 #[.pointer (some ⟨g,0,none⟩),.slice A m c] w fun e w'=>e=.returned (.tuple #[.int .i64 ((s.P.filter (fun e=>cf e.ct)).length:Nat),.int .i64 0])/\ju W R w w' g { s with P:=s.P.filter (fun e=>!cf e.ct) }:=by
 have HR:=zh (g9 g s W R w h);have HT:=zh h;have HX:=zh (fun(V:World) (hb:Below w.heap.size w V)=>lf g s W R V (h.below hb) hP);have HS:Hid ((Tryz.prog.info? 25).map (·.size)=some s.C.arr.size):=zh (by rw[s.C.arr_size];exact aS);have HO:Hid (s.C.arr.all (·.oneCell')=true):=zh s.C.arr_one;have HZ:Hid (lZ.size=s.C.arr.size):=zh (by rw[s.C.arr_size];rfl);have HD:=zh (fun(V:World) (hb:Below w.heap.size w V)=>mn m c A z V hm hmc hz (hr.next hb));unfold Bd qR at HD;rw[he,hk]at HD;obtain⟨d0,d1⟩:=r8 m z hz;have hL:=yo m z;obtain⟨D,hD⟩:=af (ce m z)
 obtain⟨L,hL2⟩:=af (fm m z)
 obtain⟨B,hB⟩:=af (b9 (pq (dz z)))
 obtain⟨Z,hZ⟩:=af s.C.arr
 rw[<-hZ]at HR HS HO HZ;rw[<-hD,<-hL2,<-hB]at HD;rw[<-hD]at d0 d1;rw[<-hL2]at hL;have HCF:=zh (show cf=qd D L B by rw[hcf,hD,hL2,hB]);have HIN:=zh hin;have HP:=zh hP;have HWW:=zh (show ∀j,W j->j < w.heap.size from by
  obtain⟨qA,qc,lq,pA,pc,lp,ub,cb,h⟩:=h
  exact h.win)
 obtain⟨n,hn⟩:=af s.P.length
 have HN:=zh hn;have hn6:n<=1000000:=by omega
 clear hZ h hr hz hD hL2 hB hcf hin hP he hk hn hm hmc;go_enter Tryz.func37,Tryz.ntmps37;go_upto_region 4 with (first
  | (go_at_call 10;refine(HR.out).mono ?_;rintro e w1 ⟨rfl,hB⟩;have B1:=zh hB;clear hB)
  | (refine wpList_store_row rfl _ _ _ rfl w1.heap.size Z rfl rfl 25 lZ (ae.new w1 _ _) HS.out HZ.out HO.out ?_))
 refine ah (fun V=>Below w.heap.size w V) (B1.out.trans ((al ((Below.refl _ w1).alloc ay _) ay _).mono B1.out.size)) ?_;intro w2 hX;have X2:=zh hX;clear hX;go_upto_region 5 with (go_at_call 17;refine(HD.out _ X2.out).mono ?_;rintro e w3 ⟨A1,c1,A2,c2,rfl,hR1,hR2,hb,hfr⟩;have B3:=zh (X2.out.trans (hb.mono X2.out.size));have R3:=zh hR1;have FR3:=zh (show dP w.heap.size A1 from fun a e=>a9 X2.out.size (hfr a e));clear hR1 hR2 hb hfr)
 refine ah (fun V=>ae V w3.heap.size 62 #[.int .i64 0,.int .u32 D,.slice A1 L c1,.slice A2 (dY m z) c2]/\Below w3.heap.size w3 V) ⟨ae.new _ _ _,bU _⟩ ?_;rintro w4 ⟨hc4,hb4⟩;obtain⟨sb,hsb⟩:=af w3.heap.size
 have C4:=zh hc4;have B4:=zh (B3.out.trans (hb4.mono B3.out.size));have R4:=zh (R3.out.next hb4);have hsw:w.heap.size<=sb:=by rw[hsb];exact B3.out.size
 rw[<-hsb]at C4 ⊢;have x0:=C4.out.cell 0;simp at x0;clear hc4 hb4 hsb;have hfp:=yc;go_wp2_with (go_at_call 56;refine(HX.out _ B4.out).mono ?_;rintro e wE ⟨pA,pc,lp,qA,qc,lq,rfl,hFO,hb⟩;have FO:=zh hFO;have BE:=zh (B4.out.trans (hb.mono B4.out.size));have CE:=zh (C4.out.below hb C4.out.lt);have RE:=zh (R4.out.next hb);clear hb hFO);have hlpn:lp.length=n:=by rw[HN.out,<-FO.out.pv,List.length_map]
 have HLP:=zh hlpn;rw[hlpn];have hbw:w.heap.size<=w4.heap.size:=B4.out.size;have hsE:sb < wE.heap.size:=CE.out.lt;have hwE:w.heap.size<=wE.heap.size:=BE.out.size;have HA0:Hid (AI w wE g s W R (PK cf s.P 0) wE):=zh (by
  rw[xT]
  exact⟨W,R,HT.out.below BE.out,fun j h=>.inl h,fun j h=>.inl h,aa.of_below BE.out,aa.refl⟩)
 have HNZ:=zh (show((NK cf s.P 0:Nat):Int)=0 from by rw[yN];rfl);clear hlpn x0 hfp;go_loopw [10,43] (fun v u wr=>∃k:Nat,k<=n/\u=.int .i64 k/\v=.int .i64 (NK cf s.P k:Nat)/\AI w wE g s W R (PK cf s.P k) wr) (fun _ u _=>n-(intOf u).toNat)
 case atStart=>exact⟨0,by omega,rfl,by rw[HNZ.out],HA0.out⟩
 case round=>
  clear HA0 HNZ;obtain⟨k,hk,rfl,rfl,hA⟩:=hrel;have HA:=zh hA;obtain⟨_,_,_,_,_,KW,KE⟩:=hA;obtain⟨N,hN⟩:=af (NK cf s.P k)
  have hNk:N<=k:=by rw[hN];unfold NK;exact a9 (List.length_filter_le _ _) (by rw[List.length_take];omega)
  have HNN:=zh hN;rw[<-hN];clear hN;have hsr:=KE.size;by_cases hlt:k < n
  ·obtain⟨e0,he0⟩:∃e0,lp[k]? = some e0:=⟨lp[k]'(by have:=HLP.out;omega),by simp[HLP.out ▸ hlt]⟩
   have hP0:s.P[k]? = some e0.v:=by rw[<-FO.out.pv,List.getElem?_map,he0];rfl
   have hS:=FO.out.p.keepF KE (fun a e hw=>by have:=FO.out.pB a e;have:=HWW.out _ hw;omega);obtain⟨b,o,hpA,hbl⟩:=hS.some_ (by have:=HLP.out;omega);have c0:=hS.cell hpA (j:=k*2+0) (by have:=HLP.out;omega);have c1':=hS.cell hpA (j:=k*2+1) (by have:=HLP.out;omega);rw[bv PE.cc 2 PE.cclen lp k _ e0 he0 (by omega)]at c0 c1';obtain⟨qA1,qc1,lq1,pA1,pc1,lp1,ub1,cb1,hT1⟩:=HT.out;have hpr:=hT1.pr e0.v (List.mem_of_getElem? hP0);obtain⟨⟨x,pn,pz,prr⟩,PA,pcc⟩:=e0;dsimp only at hP0 hpr;simp only[PE.cc,List.getElem?_cons_zero,List.getElem?_cons_succ,Nat.add_zero]at c0 c1';rw[<-Nat.add_assoc]at c1';obtain⟨r0,r1⟩:=hpr;have HP0:=zh hP0;have CR:=zh (KE.blk CE.out (fun hw=>by have:=HWW.out _ hw;omega));have RR:=zh ((KE.row RE.out ay (fun a e _ hw=>by have:=FR3.out a e;have:=HWW.out _ hw;omega)).more hsr);have k0:(0:Int)<=(k:Int):=by omega
   have k1:(k:Int) < (n:Int):=by omega
   subst hpA;clear hT1 hS he0 hP0 KW KE lq1 lp1;go_upto_region 13 with (fail)
   refine ah (fun V=>ae V wr.heap.size 94 #[.int .u32 x,.slice PA pn pcc]/\Below wr.heap.size wr V) ⟨ae.new _ _ _,bU _⟩ ?_;rintro w6 ⟨hb6,hw6⟩;obtain⟨xb,hxb⟩:=af wr.heap.size
   have A6:=zh (HA.out.below hw6);have C6:=CR.out.below hw6 CR.out.lt;have R6:=zh (RR.out.next hw6);rw[<-hxb]at hb6 ⊢;have y0:=hb6.cell 0;have z1:=C6.cell 1;have z2:=C6.cell 2;simp at y0 z1 z2;clear hb6 C6 hw6 hxb c0 c1' CR RR;have HNO:=zh (fun(h:cf x=false)=>And.intro (Bb HP0.out h) (AO HP0.out h));have HYES:=zh (fun(h:cf x=true)=>And.intro (AB HP0.out h HIN.out) (zR HP0.out h));have hn9:(N:Int)+1<=1000000:=by omega
   have HCX:=zh (congrFun HCF.out x);unfold qd at HCX;rcases Decidable.em (x < D)with t1 | t1
   ·have hy:=HYES.out (by rw[HCX.out,if_pos t1]);obtain⟨⟨i,i1,i2,i3⟩,i4⟩:=hy;have HC:=zh (A6.out.step hwE x i _ i1 rfl i2);rw[i3]at HC;have I4:=zh i4;clear i1 i2 i3 i4 HCX;go_wp2_with (go_at_call 60;refine(HC.out).mono ?_;rintro e w7 ⟨rfl,hA7⟩;have A7:=zh hA7;clear hA7);go_roundw
    case rel=>exact⟨k+1,by omega,by go_num,by rw[I4.out,<-HNN.out];go_num,A7.out⟩
    case measure=>simp[intOf];omega
   ·rcases Decidable.em (x=D)with t2 | t2
    ·have hy:=HNO.out (by rw[HCX.out,if_neg t1,if_pos t2]);have g1:¬0<=x-D-1:=by omega
     obtain⟨i3,i4⟩:=hy;have I3:=zh i3;have I4:=zh i4;clear i3 i4 HCX;go_wp2;go_roundw
     case rel=>exact⟨k+1,by omega,by go_num,by rw[I4.out,<-HNN.out],by rw[I3.out];exact A6.out⟩
     case measure=>simp[intOf];omega
    ·rcases Decidable.em (x-D-1 < (L:Int))with t3 | t3
     ·obtain⟨rb,ro,hA1,hrb,hrc⟩:=R6.out (by omega);obtain⟨I,hI⟩:∃I:Nat,(x-D-1)=(I:Int):=⟨(x-D-1).toNat,by omega⟩
      have hIL:I < L:=by omega
      have cb:=hrc I hIL;dsimp only at cb;obtain⟨bb,hbb⟩:=af (B I)
      have HBB:=zh (show bb=B (x-D-1).toNat from by rw[hI];exact hbb);rw[<-hbb]at cb;have j0:(0:Int)<=(I:Int):=by omega
      have j1:(I:Int) < (L:Int):=by omega
      have T3:=zh t3;have T1:=zh t1;have T2:=zh t2;subst hA1;clear hrc hbb t3
      cases bb
      ·have hy:=HNO.out (by rw[HCX.out,if_neg t1,if_neg t2,if_pos T3.out,<-HBB.out]);obtain⟨i3,i4⟩:=hy;have I3:=zh i3;have I4:=zh i4;clear i3 i4 HCX;go_wp2;go_roundw
       case rel=>exact⟨k+1,by omega,by go_num,by rw[I4.out,<-HNN.out],by rw[I3.out];exact A6.out⟩
       case measure=>simp[intOf];omega
      ·have hy:=HYES.out (by rw[HCX.out,if_neg t1,if_neg t2,if_pos T3.out,<-HBB.out]);obtain⟨⟨i,i1,i2,i3⟩,i4⟩:=hy;have HC:=zh (A6.out.step hwE x i _ i1 rfl i2);rw[i3]at HC;have I4:=zh i4;clear i1 i2 i3 i4 HCX;go_wp2_with (go_at_call 60;refine(HC.out).mono ?_;rintro e w7 ⟨rfl,hA7⟩;have A7:=zh hA7;clear hA7);go_roundw
       case rel=>exact⟨k+1,by omega,by go_num,by rw[I4.out,<-HNN.out];go_num,A7.out⟩
       case measure=>simp[intOf];omega
     ·have hy:=HNO.out (by rw[HCX.out,if_neg t1,if_neg t2,if_neg t3]);obtain⟨I,hI⟩:∃I:Nat,(x-D-1)=(I:Int):=⟨(x-D-1).toNat,by omega⟩
      have j0:(0:Int)<=(I:Int):=by omega
      have j1:¬(I:Int) < (L:Int):=by omega
      clear t3;obtain⟨i3,i4⟩:=hy;have I3:=zh i3;have I4:=zh i4;clear i3 i4 HCX;go_wp2;go_roundw
      case rel=>exact⟨k+1,by omega,by go_num,by rw[I4.out,<-HNN.out],by rw[I3.out];exact A6.out⟩
      case measure=>simp[intOf];omega
  ·obtain rfl:k=n:=by omega
   have HF1:=zh (show N=(s.P.filter (fun e=>cf e.ct)).length from by rw[HNN.out,HN.out];unfold NK;rw[List.take_length]);have HF2:=zh (show PK cf s.P k=s.P.filter (fun e=>!cf e.ct)from by rw[HN.out];unfold PK;rw[List.take_length,List.drop_length,List.append_nil]);go_wp2;go_ret2;refine⟨(by rw[HF1.out];rfl),?_⟩;obtain⟨W',R',h1,h2,h3,h4,h5⟩:=HA.out;rw[HF2.out]at h1
   exact⟨W',R',h1,fun j hj=>(h2 j hj).imp id (fun h=>by omega),fun j hj=>(h3 j hj).imp id (fun h=>by omega),h4⟩
end Go.Proofs.YtbfpdnnphdagjaaGreat
namespace Go.Proofs.YtbfpdnnphdagjaaGreat
open Go.RowKit
def RS.rep (r:RS):Int->Bool:=qd (ce (gd r) (eb r.deliver.toNat r.bit r.statN)) (fm (gd r) (eb r.deliver.toNat r.bit r.statN)) (b9 (pq (dz (eb r.deliver.toNat r.bit r.statN))))
section
variable {cf:ax} {pn:Nat->Nat} {z:Nat->Nat->Int} {S:Nat->Bool} {d:Nat} {r:RS}
theorem DR.le (h:DR cf pn z S d r):d<=1000:=by
 obtain⟨P,h1,h2,h3⟩:=h.bs
 exact h3.le
theorem DR.statN (h:DR cf pn z S d r):r.statN<=2047:=by
 have:=h.wh.win;unfold RS.statN;omega
theorem DR.sound (h:DR cf pn z S d r) (k:Nat) (hk:r.rep (k:Int)=true):S k=true:=by
 have hd:=h.deliver;have hle:=h.le;obtain⟨_,_,e3,e4,_⟩:=sK r.deliver.toNat r.bit r.statN (by rw[hd];omega) h.statN;unfold RS.rep gd at hk;rw[e3,e4]at hk;unfold qd at hk;have e5:((r.deliver.toNat:Nat):Int)=(d:Int):=by rw[hd];omega
 rw[e5]at hk;by_cases h1:(k:Int) < (d:Int)
 ·exact h.pre k (by omega)
 ·rw[if_neg h1]at hk;by_cases h2:(k:Int)=(d:Int)
  ·rw[if_pos h2]at hk;cases hk
  ·rw[if_neg h2]at hk;by_cases h3:(k:Int)-(d:Int)-1 < ((aq r.bit r.statN:Nat):Int)
   ·rw[if_pos h3,vt]at hk;rw[Bool.and_eq_true]at hk;have h4:=h.stat (j:=((k:Int)-(d:Int)-1).toNat) hk.2
    rwa [show d+1+((k:Int)-(d:Int)-1).toNat=k by omega]at h4
   ·rw[if_neg h3]at hk;cases hk
end
theorem DT.incr {cf:ax} {pn:Nat->Nat} {z:Nat->Nat->Int} {N q:Nat} {Pd Rp:Nat->Bool} {s:TS} (h:DT cf pn z N q Pd Rp s):zc s.P:=fun i j a b hij ha hb=>by
 rw[h.P,List.getElem?_map]at ha hb;have hr:=i5 N Pd
 cases hi:((List.range N).filter Pd)[i]? with
 | none=>rw[hi]at ha;cases ha
 | some x=>
  cases hj:((List.range N).filter Pd)[j]? with
  | none=>rw[hj]at hb;cases hb
  | some y=>
   rw[hi]at ha;rw[hj]at hb;obtain rfl:lU pn z Rp x=a:=Option.some.inj ha;obtain rfl:lU pn z Rp y=b:=Option.some.inj hb;have hil:=(List.getElem?_eq_some_iff.1 hi).1;have hjl:=(List.getElem?_eq_some_iff.1 hj).1;have h1:=List.pairwise_iff_getElem.1 hr i j hil hjl hij;rw[List.getElem?_eq_getElem hil]at hi;rw[List.getElem?_eq_getElem hjl]at hj;have h2:=Option.some.inj hi;have h3:=Option.some.inj hj;show(x:Int) < (y:Int);omega
section
variable {w0 w:World} {n:Nat} {A:Nat->Ag} {i g:Nat}
theorem an.report (h:an w0 w n A) (hi:i < n) {r:RS} {B:Option Addr} {c:Nat} {vs:List SV} (hA:A i=fP g r B c vs) (hd:r.deliver < 4294967296) (hn:r.statN<=2047) :
  Calls Tryz.prog 36 #[.pointer (some ⟨g,0,none⟩)] w fun e w'=>∃g2 cap,e=.returned (.tuple #[.slice (some ⟨g2,0,none⟩) (gd r) cap,.int .i64 0])/\gd r<=cap/\aD w' w'.heap.size (some ⟨g2,0,none⟩) (gd r) (fun j=>.int .u8 (eb r.deliver.toNat r.bit r.statN j))/\an w0 w' n A:=by
 obtain⟨W,R,sb,l,ub,ek,t1,_,_⟩:=h.rx hi hA
 exact(vE g r W R sb l ub ek w t1 hd hn).mono fun e w' ⟨g2,cap,he,hc,hr,hb⟩=>⟨g2,cap,he,hc,hr,h.below hb⟩
theorem an.apply (h:an w0 w n A) (hi:i < n) {s:TS} (hA:A i=fN g s) (hP:s.P.length<=1000000/\s.Q.length<=1000000) (hin:zc s.P) (r:RS) (h0:0<=r.deliver) (hd:r.deliver < 4294967296) (hn:r.statN<=2047) (g2 cap:Nat) (hc:gd r<=cap) (hr:aD w w.heap.size (some ⟨g2,0,none⟩) (gd r) (fun j=>.int .u8 (eb r.deliver.toNat r.bit r.statN j))) :
  Calls Tryz.prog 37 #[.pointer (some ⟨g,0,none⟩),.slice (some ⟨g2,0,none⟩) (gd r) cap] w fun e w'=>∃k:Nat,e=.returned (.tuple #[.int .i64 (k:Int),.int .i64 0])/\an w0 w' n (bW A i (fN g { s with P:=s.P.filter (fun e=>!r.rep e.ct) })):=by
 obtain⟨W,R,t1,_,t3⟩:=h.tx hi hA;have hl:=dH r.bit r.statN;obtain⟨e1,e2,_,_,_⟩:=sK r.deliver.toNat r.bit r.statN (by omega) hn;have e1:gP (gd r) (eb r.deliver.toNat r.bit r.statN)=0:=e1;have e2:ei (gd r) (eb r.deliver.toNat r.bit r.statN)=0:=e2
 exact(rT g s W R w t1 hP hin (gd r) cap _ _ (by unfold gd;omega) hc (fun j _=>wa _ _ _ j) hr e1 e2 r.rep rfl).mono fun e w' ⟨he,ho⟩=>⟨_,he,t3 w' _ ho⟩
end
end Go.Proofs.YtbfpdnnphdagjaaGreat

import Derived.Test.YtiiojpnckbglcaaGreatMGAs
import Derived.Test.YtiiojpnckbglcaaGreatFQs
import Derived.Lib.AppendZeros
import Derived.ScopeJumps
import Derived.WalkMore
set_option maxRecDepth 100000
set_option maxHeartbeats 3200000
set_option linter.unusedVariables false
set_option linter.unusedSimpArgs false
namespace Go.Proofs.YtiiojpnckbglcaaGreat
open Go.RowKit
theorem jm (n:Nat):(Builtin.zeroCells (Value.int .u8 0).cells n).size=n:=by
 rw[size_zeroCells];simp[Value.cells]
theorem pC (n:Nat) (h0:0 < n) (hn:n<=1000000) (w:World) :
  Calls Tryz.prog 116 #[.slice none 0 0,.int .i64 (n:Int)] w fun e w'=>∃v,e=.returned v/\w'.ownsRow w.heap.size 5 1 v 0 []/\Below w.heap.size w w':=by
 obtain⟨i0,hi0,hz0,hz1,hz2⟩:=info_parts Tryz.infoByte;have hrz:Hid (∀ty,(Builtin.append_ #[44,3] ty #[.slice none 0 0,.int .i64 (n:Int)]).run Tryz.prog w =
   .ok (.slice (some ⟨w.heap.size,0,none⟩) n (grownCap w n 0 5)) (w.drew.alloc (.cells (Builtin.zeroCells (Value.int .u8 0).cells n++Builtin.zeroCells (Value.int .u8 0).cells (grownCap w n 0 5 - n)) 5))):=zh fun ty=>
  Lib.run_append_nil_zeros w 44 3 ty 5 i0 (.int .u8 0) .i64 .i64 Tryz.underlying44 Tryz.underlying3 hi0 hz0 n h0 (by rw[hz1];decide) (by omega) (by rw[hz2];omega)
 have hG:=grownCap_ge w n 0 5;have hG2:=grownCap_le_maxLen w n 0 5 (by unfold maxLen;omega);obtain⟨G,hGe⟩:=af (grownCap w n 0 5)
 rw[<-hGe]at hrz hG hG2;obtain⟨cs,hcs⟩:=af (Builtin.zeroCells (Value.int .u8 0).cells n++Builtin.zeroCells (Value.int .u8 0).cells (G-n))
 rw[<-hcs]at hrz;have hsz:cs.size=G*1:=by rw[hcs,Array.size_append,jm,jm];omega
 have HSZ:=zh hsz;have HG2:=zh hG2;have hn1:¬((n:Int) < 0):=by omega
 have hn2:(0:Int) < (n:Int):=by omega
 clear hGe hcs hsz hG2;go_enter Tryz.func116,Tryz.ntmps116;go_wp2_with (at_builtin;refine Lib.wpList_append_run _ rfl _ _ _ _ rfl _ _ rfl rfl _ _ (hrz.out _) ?_);go_ret
 exact⟨_,rfl,World.ownsRow_made (base:=w.heap.size) w.drew cs G ao HG2.out HSZ.out,((Below.refl _ w).drew).alloc ao _⟩
def aK (n:Nat->Nat):Nat->Nat
 | 0=>0
 | k+1=>aK n k+n k
def gW (n:Nat->Nat) (z:Nat->Nat->Int):Nat->List Value
 | 0=>[]
 | k+1=>gW n z k++(List.range (n k)).map (fun j=>.int .u8 (z k j))
theorem jN (n:Nat->Nat) (a:Nat):∀d,aK n a<=aK n (a+d)
 | 0=>Nat.le_refl _
 | d+1=>ba (jN n a d) (Nat.le_add_right _ _)
theorem mT (m sb:Nat) (A:Nat->Option Addr) (n c:Nat->Nat) (z:Nat->Nat->Int) (hm:m<=100) (h0:0 < aK n m) (hN:aK n m<=1000000) (w:World) (hsb:sb < w.heap.size)
  (hc:∀k,k < m->w.cell? ⟨sb,k,none⟩=some (.slice (A k) (n k) (c k))) (hr:∀k,k < m->au w w.heap.size (A k) (n k) (fun j=>.int .u8 (z k j))) :
  Calls Tryz.prog 85 #[.slice (some ⟨sb,0,none⟩) m m] w fun e w'=>∃v,e=.returned v/\w'.ownsRow w.heap.size 5 1 v (aK n m) (gW n z m)/\Below w.heap.size w w':=by
 obtain⟨i0,hi0,hz0,hz1,hz2⟩:=info_parts Tryz.infoByte;have HC:=zh hc;have HR:=zh hr;have HT:=zh (fun k d=>jN n k d);clear hc hr;go_enter Tryz.func85,Tryz.ntmps85;go_wp2;go_loop [3,11] (fun v3 v11=>∃k:Nat,k<=m/\v11=.int .i64 k/\v3=.int .i64 (aK n k:Nat)) (fun _ v=>m-(intOf v).toNat)
 case atStart=>exact⟨0,Nat.zero_le _,rfl,rfl⟩
 case round=>
  obtain⟨k,hk,rfl,rfl⟩:=hrel;by_cases hlt:k < m
  ·have hck:=HC.out k hlt;have ht:aK n k+n k<=1000000:=by have:=HT.out (k+1) (m-(k+1));rw[show k+1+(m-(k+1))=m by omega]at this;exact ba this hN
   obtain⟨t,htt⟩:=af (aK n k)
   have HTT:=zh (show aK n (k+1)=t+n k by rw[htt];rfl);rw[<-htt]at ht ⊢;clear htt;obtain⟨nk,hnk⟩:=af (n k)
   rw[<-hnk]at ht hck HTT;clear hnk;have hni:¬((t:Int)+(nk:Int) < 0):=by omega
   go_wp2;go_round
   case rel=>exact⟨k+1,by omega,by go_num,by rw[HTT.out];go_num⟩
   case measure=>simp[intOf];omega
  ·obtain rfl:k=m:=by omega
   have HGN:=zh (fun W=>pC (aK n k) h0 hN W);obtain⟨N,hNe⟩:=af (aK n k)
   rw[<-hNe]at HGN h0 hN ⊢;have HNE:=zh hNe;clear hNe;go_wp2_with (go_at_call 116;refine(HGN.out _).mono ?_;rintro e w1 ⟨v1,rfl,ho1,b1⟩;have HO1:=zh ho1;have B1:=zh b1;clear ho1 b1);go_loopw [6,27] (fun v6 v27 wr=>∃q:Nat,q<=k/\v27=.int .i64 q/\wr.ownsRow w.heap.size 5 1 v6 (aK n q) (gW n z q)/\Below w.heap.size w wr) (fun _ v _=>k-(intOf v).toNat)
   case atStart=>exact⟨0,Nat.zero_le _,rfl,HO1.out,B1.out⟩
   case round=>
    obtain⟨q,hq,rfl,hoq,hbq⟩:=hrel;by_cases hlt2:q < k
    ·have hcq:=(hbq.cell (p:=⟨sb,q,none⟩) hsb).trans (HC.out q hlt2);have hrq:=(HR.out q hlt2).next hbq;have ht:aK n q+n q<=1000000:=by have:=HT.out (q+1) (k-(q+1));rw[show q+1+(k-(q+1))=k by omega,<-HNE.out]at this;exact ba this hN
     have HOQ:=zh hoq;have HBQ:=zh hbq;have HRQ:=zh hrq;clear hoq hbq hrq;go_wp2_with (at_builtin;refine bD _ rfl _ _ 44 rfl w.heap.size 5 i0 (.int .u8 0) 1 Tryz.underlying44 hi0 hz0 hz1 hz2 rfl _ _ _ rfl HOQ.out wr.heap.size (A q) (n q) (c q) (fun j=>.int .u8 (z q j)) rfl HRQ.out (fun _=>rfl) (by unfold maxLen;omega) (by omega) HBQ.out.size ?_;intro v2 w2 hown2 hg2 _;have HO2:=zh hown2;have B2:=zh (HBQ.out.grown hg2 HBQ.out.size (fun k hk=>(HOQ.out.lt k hk).1));clear hown2 hg2);go_roundw
     case rel=>exact⟨q+1,by omega,by go_num,HO2.out,B2.out⟩
     case measure=>simp[intOf];omega
    ·obtain rfl:q=k:=by omega
     have HOQ:=zh hoq;have HBQ:=zh hbq;clear hoq hbq;go_wp2;go_ret
     exact⟨_,rfl,by rw[HNE.out];exact HOQ.out,HBQ.out⟩
def de (n:Nat->Nat) (z:Nat->Nat->Int):Nat->Nat->Int
 | 0,_=>0
 | k+1,j=>if j < aK n k then de n z k j else z k (j-aK n k)
theorem fh (n:Nat->Nat) (z:Nat->Nat->Int):∀k,(gW n z k).length=aK n k
 | 0=>rfl
 | k+1=>by show(gW n z k++_).length=aK n k+n k;rw[List.length_append,fh n z k];simp
theorem lW (n:Nat->Nat) (z:Nat->Nat->Int):∀k j,j < aK n k->(gW n z k)[j]? = some (.int .u8 (de n z k j))
 | 0,j,h=>absurd h (by simp[aK])
 | k+1,j,h=>by
  show(gW n z k++_)[j]? = some (.int .u8 (if j < aK n k then _ else _));by_cases hj:j < aK n k
  ·rw[if_pos hj,List.getElem?_append_left (by rw[fh];exact hj)]
   exact lW n z k j hj
  ·rw[if_neg hj,List.getElem?_append_right (by rw[fh];omega),fh];have h2:j-aK n k < n k:=by have:j < aK n k+n k:=h;omega
   simp[h2]
def cF (b:Int) (y:Nat->Int) (j:Nat):Int:=if j=0 then b else y (j-1)
theorem lU (b:Int) (m sb:Nat) (A:Nat->Option Addr) (n c:Nat->Nat) (z:Nat->Nat->Int) (hm:m<=100) (h0:0 < aK n m) (hN:aK n m<=1000000) (w:World) (hsb:sb < w.heap.size)
  (hc:∀k,k < m->w.cell? ⟨sb,k,none⟩=some (.slice (A k) (n k) (c k))) (hr:∀k,k < m->au w w.heap.size (A k) (n k) (fun j=>.int .u8 (z k j))) :
  Calls Tryz.prog 107 #[.int .u8 b,.slice (some ⟨sb,0,none⟩) m m] w fun e w'=>∃B d,e=.returned (.slice B (1+aK n m) d)/\1+aK n m<=d/\cj w.heap.size B/\au w' w'.heap.size B (1+aK n m) (fun j=>.int .u8 (cF b (de n z m) j))/\Below w.heap.size w w':=by
 obtain⟨i0,hi0,hz0,hz1,hz2⟩:=info_parts Tryz.infoByte;have HC:=zh (fun o:Obj=>mT m sb A n c z hm h0 hN (w.alloc o) (by simp;omega) (fun k hk=>(World.cell?_alloc_lt w o ⟨sb,k,none⟩ hsb).trans (hc k hk)) (fun k hk=>bh (hr k hk) o));have HAT:=zh (lW n z m);obtain⟨N,hNe⟩:=af (aK n m)
 obtain⟨Y,hY⟩:=af (de n z m)
 rw[<-hNe,<-hY]at HAT;rw[<-hNe]at HC hN;rw[<-hNe,<-hY];clear hc hr h0 hNe hY;go_enter Tryz.func107,Tryz.ntmps107;go_wp2_with (first
  | (go_at_call 85;refine(HC.out _).mono ?_;rintro e w2 ⟨v2,rfl,ho2,b2⟩;obtain⟨A2,c2,hv2,_,_,_,hr2⟩:=dn (f:=fun j=>.int .u8 (Y j)) ho2 HAT.out;subst hv2;have HR2:=zh hr2;have B2:=zh (((Below.refl _ w).alloc ao _).trans (b2.mono (by simp)):Below w.heap.size w w2);have OW:=zh (sL (World.ownsRow_lit (base:=w.heap.size) (e:=5) (size:=1) w #[.int .u8 b] 1 ao (by decide) rfl) b2);clear ho2 hr2 b2)
  | (at_builtin;refine bD _ rfl _ _ 44 rfl w.heap.size 5 i0 (.int .u8 0) 1 Tryz.underlying44 hi0 hz0 hz1 hz2 rfl _ 1 _ rfl OW.out w2.heap.size A2 N c2 (fun j=>.int .u8 (Y j)) rfl HR2.out (fun _=>rfl) (by unfold maxLen;omega) (by omega) B2.out.size ?_;intro v3 w3 hown3 hg3 _;have B3:=zh (B2.out.grown hg3 B2.out.size (fun k hk=>(OW.out.lt k hk).1));obtain⟨A3,c3,hv3,hc3,_,hf3,hr3⟩:=dn (f:=fun j=>.int .u8 (cF b Y j)) hown3 (fun j hj=>(nF _ _ _ j hj).trans (by unfold cF;split<;>rfl));subst hv3;have HR3:=zh hr3;have HC3:=zh hc3;have HF3:=zh hf3;clear hown3 hg3 hr3 hc3 hf3))
 go_ret
 exact⟨_,_,rfl,HC3.out,HF3.out,HR3.out,B3.out⟩
def fv (f0 f1 f2 f3 f4:Int) (x:Rx):Int:=if x.used && dX x.f0 x.f1 x.f2 x.f3 x.f4 f0 f1 f2 f3 f4 then -2 else if x.used then x.turn else -1
def dw (v:Nat->Int):Nat->Nat
 | 0=>0
 | k+1=>if v k < v (dw v k) then k else dw v k
theorem l9 (v:Nat->Int):∀k,dw v k<=k
 | 0=>Nat.le_refl _
 | k+1=>by
  unfold dw;have:=l9 v k
  split<;>omega
theorem mV (x:Rx) (f0 f1 f2 f3 f4:Int) (fb:Nat) (w:World) (hB:ae w fb 132 #[.int .i64 f0,.int .i64 f1,.int .i64 f2,.int .i64 f3,.int .i64 f4]) :
  Calls Tryz.prog 133 #[.agg #[.int .i64 x.hops,.int .i64 x.ident,.int .i64 x.time,.bool x.used,.int .i64 x.f0,.int .i64 x.f1,.int .i64 x.f2,.int .i64 x.f3,.int .i64 x.f4,.bool x.began,.int .u8 x.gen,.int .i64 x.step,.bool x.need,.int .i64 x.turn],.pointer (some ⟨fb,0,none⟩)] w fun e w'=>e=.returned (.int .i64 (fv f0 f1 f2 f3 f4 x))/\Below w.heap.size w w':=by
 obtain⟨b0,b1,b2,b3,b4⟩:=hB.five;have hlt:=hB.lt;have heq:=tl x.f0 x.f1 x.f2 x.f3 x.f4 f0 f1 f2 f3 f4;obtain⟨r,hr⟩:=af (fv f0 f1 f2 f3 f4 x)
 rw[<-hr];unfold fv at hr;obtain⟨sf,hsf⟩:=af (dX x.f0 x.f1 x.f2 x.f3 x.f4 f0 f1 f2 f3 f4)
 rw[<-hsf]at heq hr;obtain⟨u,hu⟩:=af x.used
 rw[<-hu]at hr ⊢;clear hsf hB hu;have HR:=zh hr;clear hr
 cases u
 focus
  have hr1:r = -1:=HR.out
 rotate_left
 focus
  cases sf
  focus
   have hr1:r=x.turn:=HR.out
  rotate_left
  focus
   have hr1:r = -2:=HR.out
 all_goals
  subst hr1;go_enter Tryz.func133,Tryz.ntmps133;go_wp2;go_ret
  exact⟨rfl,(Below.refl _ w).alloc ao _⟩
theorem vE (g fb:Nat) (made:Bool) (S:Nat->Rx) (T:Int) (f0 f1 f2 f3 f4:Int) (w:World) (h:CB w g made S T) (hB:ae w fb 132 #[.int .i64 f0,.int .i64 f1,.int .i64 f2,.int .i64 f3,.int .i64 f4]) :
  Calls Tryz.prog 132 #[.slice (some ⟨g,1,none⟩) 16 16,.func (.func 133) #[] #[.pointer (some ⟨fb,0,none⟩)]] w fun e w'=>e=.returned (.int .i64 (dw (fun k=>fv f0 f1 f2 f3 f4 (S k)) 16:Nat))/\Below w.heap.size w w':=by
 have HB:=zh h;have HF:=zh hB;have hgl:=h.lt;have hfl:=hB.lt;clear h hB;obtain⟨v,hv⟩:∃v,v=fun k=>fv f0 f1 f2 f3 f4 (S k):=⟨_,rfl⟩
 rw[<-hv];have HV:=zh (fun k=>(congrFun hv k:v k=fv f0 f1 f2 f3 f4 (S k)));clear hv;go_enter Tryz.func132,Tryz.ntmps132;go_wp2;go_loopw [4,9] (fun v4 v9 wr=>∃k:Nat,k<=16/\v9=.int .i64 k/\v4=.int .i64 (dw v k:Nat)/\Below w.heap.size w wr) (fun _ v _=>16-(intOf v).toNat)
 case atStart=>exact⟨0,by decide,rfl,rfl,Below.refl _ _⟩
 case round=>
  obtain⟨k,hk,rfl,rfl,hb⟩:=hrel;by_cases hlt:k < 16
  ·have hbk:=l9 v k;obtain⟨q,hq⟩:=af (dw v k)
   have HQ:=zh hq;rw[<-hq]at hbk ⊢;have hq16:q < 16:=by omega
   have KR:=zh (HB.out.below hb hgl);have FR:=zh (HF.out.below hb hfl);have BR:=zh hb;have k0:(0:Int)<=(k:Int):=by omega
   have k1:(k:Int) < 16:=by omega
   have q0:(0:Int)<=(q:Int):=by omega
   have q1:(q:Int) < 16:=by omega
   obtain⟨c0,c1,c2,c3,c4,c5,c6,c7,c8,c9,c10,c11,c12,c13⟩:=KR.out.cells (o:=1+k*14) hlt (by omega);clear hq hb;go_wp2;obtain⟨xb,hxb⟩:=af wr.heap.size
   obtain⟨W1,hW1⟩:=af (wr.alloc (.cells #[.int .i64 (S k).hops,.int .i64 (S k).ident,.int .i64 (S k).time,.bool (S k).used,.int .i64 (S k).f0,.int .i64 (S k).f1,.int .i64 (S k).f2,.int .i64 (S k).f3,.int .i64 (S k).f4,.bool (S k).began,.int .u8 (S k).gen,.int .i64 (S k).step,.bool (S k).need,.int .i64 (S k).turn] 134))
   have X1:=zh (show ae W1 xb 134 #[.int .i64 (S k).hops,.int .i64 (S k).ident,.int .i64 (S k).time,.bool (S k).used,.int .i64 (S k).f0,.int .i64 (S k).f1,.int .i64 (S k).f2,.int .i64 (S k).f3,.int .i64 (S k).f4,.bool (S k).began,.int .u8 (S k).gen,.int .i64 (S k).step,.bool (S k).need,.int .i64 (S k).turn] by rw[hW1,hxb];exact ae.new _ _ _);have K1:=zh (show CB W1 g made S T by rw[hW1];exact KR.out.alloc _);have F1:=zh (show ae W1 fb 132 #[.int .i64 f0,.int .i64 f1,.int .i64 f2,.int .i64 f3,.int .i64 f4] by rw[hW1];exact FR.out.alloc _);have B1:=zh (show Below w.heap.size w W1 by rw[hW1];exact dG BR.out _);rw[<-hW1,<-hxb];clear hW1 hxb c0 c1 c2 c3 c4 c5 c6 c7 c8 c9 c10 c11 c12 c13;have xl:=X1.out.lt;have gl:=K1.out.lt;have fl:=F1.out.lt;obtain⟨d0,d1,d2,d3,d4,d5,d6,d7,d8,d9,d10,d11,d12,d13⟩:=K1.out.cells (o:=1+q*14) hq16 (by omega);have x0:∀e:ax W1,e.v.cell? ⟨xb,0,none⟩=some (.int .i64 (S k).hops):=fun e=>e.cell (X1.out.cell 0) xl;have y0:∀e:ax W1,e.v.cell? ⟨g,1+q*14,none⟩=some (.int .i64 (S q).hops):=fun e=>e.cell d0 gl;have x1:∀e:ax W1,e.v.cell? ⟨xb,1,none⟩=some (.int .i64 (S k).ident):=fun e=>e.cell (X1.out.cell 1) xl;have y1:∀e:ax W1,e.v.cell? ⟨g,1+q*14+1,none⟩=some (.int .i64 (S q).ident):=fun e=>e.cell d1 gl;have x2:∀e:ax W1,e.v.cell? ⟨xb,2,none⟩=some (.int .i64 (S k).time):=fun e=>e.cell (X1.out.cell 2) xl;have y2:∀e:ax W1,e.v.cell? ⟨g,1+q*14+2,none⟩=some (.int .i64 (S q).time):=fun e=>e.cell d2 gl;have x3:∀e:ax W1,e.v.cell? ⟨xb,3,none⟩=some (.bool (S k).used):=fun e=>e.cell (X1.out.cell 3) xl;have y3:∀e:ax W1,e.v.cell? ⟨g,1+q*14+3,none⟩=some (.bool (S q).used):=fun e=>e.cell d3 gl;have x4:∀e:ax W1,e.v.cell? ⟨xb,4,none⟩=some (.int .i64 (S k).f0):=fun e=>e.cell (X1.out.cell 4) xl;have y4:∀e:ax W1,e.v.cell? ⟨g,1+q*14+4,none⟩=some (.int .i64 (S q).f0):=fun e=>e.cell d4 gl;have x5:∀e:ax W1,e.v.cell? ⟨xb,5,none⟩=some (.int .i64 (S k).f1):=fun e=>e.cell (X1.out.cell 5) xl;have y5:∀e:ax W1,e.v.cell? ⟨g,1+q*14+5,none⟩=some (.int .i64 (S q).f1):=fun e=>e.cell d5 gl;have x6:∀e:ax W1,e.v.cell? ⟨xb,6,none⟩=some (.int .i64 (S k).f2):=fun e=>e.cell (X1.out.cell 6) xl;have y6:∀e:ax W1,e.v.cell? ⟨g,1+q*14+6,none⟩=some (.int .i64 (S q).f2):=fun e=>e.cell d6 gl;have x7:∀e:ax W1,e.v.cell? ⟨xb,7,none⟩=some (.int .i64 (S k).f3):=fun e=>e.cell (X1.out.cell 7) xl;have y7:∀e:ax W1,e.v.cell? ⟨g,1+q*14+7,none⟩=some (.int .i64 (S q).f3):=fun e=>e.cell d7 gl;have x8:∀e:ax W1,e.v.cell? ⟨xb,8,none⟩=some (.int .i64 (S k).f4):=fun e=>e.cell (X1.out.cell 8) xl;have y8:∀e:ax W1,e.v.cell? ⟨g,1+q*14+8,none⟩=some (.int .i64 (S q).f4):=fun e=>e.cell d8 gl;have x9:∀e:ax W1,e.v.cell? ⟨xb,9,none⟩=some (.bool (S k).began):=fun e=>e.cell (X1.out.cell 9) xl;have y9:∀e:ax W1,e.v.cell? ⟨g,1+q*14+9,none⟩=some (.bool (S q).began):=fun e=>e.cell d9 gl;have x10:∀e:ax W1,e.v.cell? ⟨xb,10,none⟩=some (.int .u8 (S k).gen):=fun e=>e.cell (X1.out.cell 10) xl;have y10:∀e:ax W1,e.v.cell? ⟨g,1+q*14+10,none⟩=some (.int .u8 (S q).gen):=fun e=>e.cell d10 gl;have x11:∀e:ax W1,e.v.cell? ⟨xb,11,none⟩=some (.int .i64 (S k).step):=fun e=>e.cell (X1.out.cell 11) xl;have y11:∀e:ax W1,e.v.cell? ⟨g,1+q*14+11,none⟩=some (.int .i64 (S q).step):=fun e=>e.cell d11 gl;have x12:∀e:ax W1,e.v.cell? ⟨xb,12,none⟩=some (.bool (S k).need):=fun e=>e.cell (X1.out.cell 12) xl;have y12:∀e:ax W1,e.v.cell? ⟨g,1+q*14+12,none⟩=some (.bool (S q).need):=fun e=>e.cell d12 gl;have x13:∀e:ax W1,e.v.cell? ⟨xb,13,none⟩=some (.int .i64 (S k).turn):=fun e=>e.cell (X1.out.cell 13) xl;have y13:∀e:ax W1,e.v.cell? ⟨g,1+q*14+13,none⟩=some (.int .i64 (S q).turn):=fun e=>e.cell d13 gl;have C1:=zh (fun e:ax W1=>mV (S k) f0 f1 f2 f3 f4 fb e.v (F1.out.below e.h fl));have C2:=zh (fun e:ax W1=>mV (S q) f0 f1 f2 f3 f4 fb e.v (F1.out.below e.h fl));have BX:Hid (∀e:ax W1,Below w.heap.size w e.v):=zh fun e=>av B1.out e.h;obtain⟨vk,hvk⟩:=af (fv f0 f1 f2 f3 f4 (S k))
   obtain⟨vq,hvq⟩:=af (fv f0 f1 f2 f3 f4 (S q))
   rw[<-hvk]at C1;rw[<-hvq]at C2;have HVK:=zh hvk;have HVQ:=zh hvq;clear d0 d1 d2 d3 d4 d5 d6 d7 d8 d9 d10 d11 d12 d13 hvk hvq;by_cases hcmp:vk < vq
   focus
    have hbi:dw v (k+1)=k:=by
     unfold dw;rw[<-HQ.out,HV.out k,HV.out q,<-HVK.out,<-HVQ.out,if_pos hcmp]
   rotate_left
   focus
    have hbi:dw v (k+1)=q:=by
     unfold dw;rw[<-HQ.out,HV.out k,HV.out q,<-HVK.out,<-HVQ.out,if_neg hcmp]
   all_goals
    have HBI:=zh hbi;clear hbi;refine aS (by kernel_rfl) (by kernel_rfl) ?_
    repeat (go_big_quiet_step (first | (with_reducible exact Calls.ext_of (C1.out _)) | (with_reducible exact Calls.ext_of (C2.out _))))
    refine wpQuiet_nil ?_;rintro _ ⟨ex,rfl⟩;go_wp2;go_roundw
    case rel=>exact⟨k+1,by omega,by go_num,by rw[HBI.out],BX.out ex⟩
    case measure=>simp[intOf];omega
  ·obtain rfl:k=16:=by omega
   go_wp2;go_ret
   exact⟨rfl,hb⟩
theorem vD (g:Nat) (made:Bool) (S:Nat->Rx) (T:Int) (f0 f1 f2 f3 f4:Int) (w:World) (h:CB w g made S T) :
  Calls Tryz.prog 108 #[.pointer (some ⟨g,0,none⟩),.agg #[.int .i64 f0,.int .i64 f1,.int .i64 f2,.int .i64 f3,.int .i64 f4]] w fun e w'=>e=.returned (.int .i64 (dw (fun k=>fv f0 f1 f2 f3 f4 (S k)) 16:Nat))/\Below w.heap.size w w':=by
 have HB:=zh (fun o:Obj=>h.alloc o);have HF:=zh (ae.new w 132 #[.int .i64 f0,.int .i64 f1,.int .i64 f2,.int .i64 f3,.int .i64 f4]);have hbo:=zh (fun W hc hf=>vE g w.heap.size made S T f0 f1 f2 f3 f4 W hc hf);have hmf:∀(fn:Fn) (first cap:Array Value) (w:World),(Instr.makeFunc fn first cap).run Tryz.prog w=.ok (.func fn first cap) w:=fun _ _ _ _=>rfl;obtain⟨r,hr⟩:∃r,r=dw (fun k=>fv f0 f1 f2 f3 f4 (S k)) 16:=⟨_,rfl⟩
 rw[<-hr]at hbo ⊢;clear h hr;go_enter Tryz.func108,Tryz.ntmps108;go_wp2_with (go_at_call 132;refine(hbo.out _ (HB.out _) HF.out).mono ?_;rintro e w1 ⟨rfl,b1⟩);go_ret
 exact⟨rfl,((Below.refl _ w).alloc ao _).trans (b1.mono (by simp))⟩
end Go.Proofs.YtiiojpnckbglcaaGreat
namespace Go.Proofs.YtiiojpnckbglcaaGreat
open Go.RowKit
attribute [local go_sem ↓] Go.wp_at_zero Go.wp_at_succ
theorem fU {P:Program} {a:Act} {w:World} {Q:Exit->Act->World->Prop} {c rest:Code} (l:Nat) (hf:findLabel c l=some rest)
  (h:c.wp P (Exit.jump l (fun a' w'=>rest.wp P (Exit.noGoto Q) a' w') Q) a w):(Code.scope c).wp P Q a w:=
 wp_scope_jumps l _ (fun _ _=>0) hf h fun _ _ hJ=>wp_mono hJ fun e _ _ he=>by
  cases e with
  | goto l'=>exact(show False from he).elim
  | normal=>exact he
  | exit id=>exact he
  | ret=>exact he
  | panic ch=>exact he
  | outgrown=>exact he
theorem il (l:Nat) (J:Act->World->Prop) (Q:Exit->Act->World->Prop) (a:Act) (w:World):Exit.jump l J Q .ret a w=Q .ret a w:=rfl
def bE (S:Nat->Rx) (X:Nat->Int):Nat:=dw (fun k=>fv (X 0) (X 1) (X 2) (X 3) (X 4) (S k)) 16
theorem ou (v:Nat->Int):∀k,0 < k->dw v k < k
 | 0,h=>absurd h (by decide)
 | k+1,_=>by
  unfold dw;have:=l9 v k
  split
  ·omega
  ·by_cases h:k=0
   ·subst h;exact Nat.lt_succ_self 0
   ·have:=ou v k (by omega);omega
theorem lQ (S:Nat->Rx) (X:Nat->Int):bE S X < 16:=ou _ 16 (by decide)
def aB (S:Nat->Rx) (T:Int) (X:Nat->Int):Rx:={ S (bE S X)with turn:=T+1 }
def cU (S:Nat->Rx) (T:Int) (X:Nat->Int):Int:=eF (aB S T X) (X 0) (X 1) (X 2) (X 3) (X 4) (X 5) (X 6) (X 7)
def dg (S:Nat->Rx) (T:Int) (X:Nat->Int):Rx:=
 if cU S T X=0 then fq (aB S T X) (X 0) (X 1) (X 2) (X 3) (X 4) (X 5) (X 6) (X 7)
 else if cU S T X=1 then dD (aB S T X) (X 5) (X 6) (X 7) (kT (aB S T X) (X 7) / bP (aB S T X) (X 6))
 else aB S T X
def ib (S:Nat->Rx) (T:Int) (X:Nat->Int):Nat:=if cU S T X=0 then 19 else if cU S T X=1 then 5 else 2
def ly (S:Nat->Rx) (T:Int) (X:Nat->Int) (z:Nat->Int) (j:Nat):Int:=
 if cU S T X=0 then (if j=0 then (dg S T X).gen else z (j-1))
 else if cU S T X=1 then ([(dg S T X).gen,bP (aB S T X) (X 6),kT (aB S T X) (X 7) / 256,kT (aB S T X) (X 7) % 256,X 5]:List Int).getD j 0
 else ([(aB S T X).gen,bP (aB S T X) (X 6)]:List Int).getD j 0
def cE (S:Nat->Rx) (T:Int) (X:Nat->Int):Int:=64*cU S T X+4*(bE S X:Int)
def fI (S:Nat->Rx) (T:Int) (X:Nat->Int):Nat->Rx:=an S (bE S X) (dg S T X)
def eP (S:Nat->Rx) (T:Int) (X:Nat->Int) (n:Nat) (z:Nat->Int):Nat->Int:=
 de (fun k=>if k=0 then ib S T X else n-20) (fun k=>if k=0 then ly S T X z else fun j=>z (20+j)) 2
def xQ (len:Nat) (y:Nat->Int) (err:Int) (g:Nat) (S:Nat->Rx) (T:Int) (w:World) (e:Ending) (w':World):Prop:=
 ∃A c,e=.returned (.tuple #[.slice A len c,.int .i64 err])/\len<=c/\cj w.heap.size A/\au w' w'.heap.size A len (fun j=>.int .u8 (y j))/\CB w' g true S T/\bI g w w'
end Go.Proofs.YtiiojpnckbglcaaGreat
namespace Go.Proofs.YtiiojpnckbglcaaGreat
open Go.RowKit
theorem cj.mono {a b:Nat} {A:Option Addr} (h:cj b A) (hab:a<=b):cj a A:=fun x e=>ba hab (h x e)
end Go.Proofs.YtiiojpnckbglcaaGreat
namespace Go.Proofs.YtiiojpnckbglcaaGreat
open Go.RowKit
attribute [local go_sem ↓] Go.wp_at_zero Go.wp_at_succ
theorem mj (g:Nat) (S:Nat->Rx) (T:Int) (A:Option Addr) (n c:Nat) (w:World) (h:CB w g true S T) (he:bK n ≠ 0) :
  Calls Tryz.prog 83 #[.pointer (some ⟨g,0,none⟩),.slice A n c] w fun e w'=>e=.returned (.tuple #[.slice none 0 0,.int .i64 (bK n)])/\Below w.heap.size w w':=by
 have HB:=zh (fun o:Obj=>iQ g true S T _ (h.alloc o));have HC:=zh (fun W=>gh A n c W);obtain⟨E,hE⟩:=af (bK n)
 rw[<-hE]at HC he ⊢;have e1:(E != 0)=true:=by simpa using he
 have e2:(E == 0)=false:=by simpa using he
 clear h hE;go_enter Tryz.func83,Tryz.ntmps83;go_wp2;refine fU 0 rfl ?_;go_wp2_with (first
  | (go_at_call 88;refine(HB.out _).mono ?_;rintro e w1 ⟨rfl,rfl⟩)
  | (go_at_call 43;refine(HC.out _).mono ?_;rintro e w1 ⟨rfl,rfl⟩))
 go_step3;refine⟨rfl,?_⟩;show Code.wp _ _ _ _ _;go_wp2;rw[Exit.noGoto_ret];go_ret2
 exact⟨rfl,(Below.refl _ w).alloc ao _⟩
theorem oK (b:Int) (sb:Nat) (A:Option Addr) (n c:Nat) (z:Nat->Int) (h0:0 < n) (hN:n<=100000) (w:World) (hsb:sb < w.heap.size)
  (hc:w.cell? ⟨sb,0,none⟩=some (.slice A n c)) (hr:au w w.heap.size A n (fun j=>.int .u8 (z j))) :
  Calls Tryz.prog 107 #[.int .u8 b,.slice (some ⟨sb,0,none⟩) 1 1] w fun e w'=>∃B d,e=.returned (.slice B (1+n) d)/\1+n<=d/\cj w.heap.size B/\au w' w'.heap.size B (1+n) (fun j=>.int .u8 (cF b z j))/\Below w.heap.size w w':=by
 have H:=lU b 1 sb (fun _=>A) (fun _=>n) (fun _=>c) (fun _=>z) (by decide) (by simp only[aK];omega) (by simp only[aK];omega) w hsb (fun k hk=>match k,hk with
   | 0,_=>hc
   | k+1,h=>absurd h (by omega)) (fun _ _=>hr)
 have e1:aK (fun _=>n) 1=n:=by simp[aK]
 have e2:de (fun _=>n) (fun _=>z) 1=z:=by funext j;simp[de,aK]
 rw[e1,e2]at H
 exact H.mono fun e w' ⟨B,d,he,hd,hF,hR,hB⟩=>⟨B,d,he,hd,hF,hR,hB⟩
theorem gR (b:Int) (sb:Nat) (A0 A1:Option Addr) (n0 c0 n1 c1:Nat) (z0 z1:Nat->Int) (h0:0 < n0) (hN:n0+n1<=100000) (w:World) (hsb:sb < w.heap.size)
  (hc0:w.cell? ⟨sb,0,none⟩=some (.slice A0 n0 c0)) (hr0:au w w.heap.size A0 n0 (fun j=>.int .u8 (z0 j)))
  (hc1:w.cell? ⟨sb,1,none⟩=some (.slice A1 n1 c1)) (hr1:au w w.heap.size A1 n1 (fun j=>.int .u8 (z1 j))) :
  Calls Tryz.prog 107 #[.int .u8 b,.slice (some ⟨sb,0,none⟩) 2 2] w fun e w'=>∃B d,e=.returned (.slice B (1+(n0+n1)) d)/\1+(n0+n1)<=d/\cj w.heap.size B/\au w' w'.heap.size B (1+(n0+n1)) (fun j=>.int .u8 (cF b (fun j=>if j < n0 then z0 j else z1 (j-n0)) j))/\Below w.heap.size w w':=by
 have H:=lU b 2 sb (fun k=>if k=0 then A0 else A1) (fun k=>if k=0 then n0 else n1) (fun k=>if k=0 then c0 else c1) (fun k=>if k=0 then z0 else z1) (by decide) (by simp[aK];omega) (by simp[aK];omega) w hsb
  (fun k hk=>match k,hk with
   | 0,_=>hc0
   | 1,_=>hc1
   | k+2,h=>absurd h (by omega))
  (fun k hk=>match k,hk with
   | 0,_=>hr0
   | 1,_=>hr1
   | k+2,h=>absurd h (by omega))
 have e1:aK (fun k=>if k=0 then n0 else n1) 2=n0+n1:=by simp[aK]
 have e2:de (fun k=>if k=0 then n0 else n1) (fun k=>if k=0 then z0 else z1) 2=fun j=>if j < n0 then z0 j else z1 (j-n0):=by
  funext j;simp[de,aK]
 rw[e1,e2]at H
 exact H.mono fun e w' ⟨B,d,he,hd,hF,hR,hB⟩=>⟨B,d,he,hd,hF,hR,hB⟩
theorem pj (n:Nat) (h:bK n=0):0 < n/\n<=9000:=by
 unfold bK at h;by_cases h0:n=0
 ·rw[if_pos h0]at h;cases h
 ·rw[if_neg h0]at h;by_cases h9:9000 < n
  ·rw[if_pos h9]at h;cases h
  ·omega
theorem mu (g:Nat) (S:Nat->Rx) (T:Int) (A:Option Addr) (n c:Nat) (z:Nat->Int) (w:World) (h:CB w g true S T) (he:bK n=0) (hp:dr n z ≠ 0) (hnc:n<=c) (hz:∀j,j < n->0<=z j/\z j < 256) (hr:au w w.heap.size A n (fun j=>.int .u8 (z j))) :
  Calls Tryz.prog 83 #[.pointer (some ⟨g,0,none⟩),.slice A n c] w (xQ (1+n) (cF 192 z) 0 g S T w):=by
 obtain⟨n0,n9⟩:=pj n he;have hgl:=h.lt;have HB:=zh (fun o:Obj=>iQ g true S T _ (h.alloc o));have HC:=zh (fun W=>gh A n c W);rw[he]at HC;have HP:=zh (fun(W:World) (hR:au W W.heap.size A n (fun j=>.int .u8 (z j)))=>lJ A n c z hnc hz W hR);have HR:=zh hr;have HK:=zh h;unfold cV hdr at HP;obtain⟨L,hL⟩:=af (jw n z)
 obtain⟨E,hE⟩:=af (dr n z)
 obtain⟨X,hX⟩:=af (eC n z)
 rw[<-hL,<-hE,<-hX]at HP;rw[<-hE]at hp;have e1:(E != 0)=true:=by simpa using hp
 have e2:(E == 0)=false:=by simpa using hp
 clear hL hE hX h he hp hnc hz hr;go_enter Tryz.func83,Tryz.ntmps83;go_wp2;refine fU 0 rfl ?_;go_wp2_with (first
  | (go_at_call 88;refine(HB.out _).mono ?_;rintro e w1 ⟨rfl,rfl⟩)
  | (go_at_call 43;refine(HC.out _).mono ?_;rintro e w1 ⟨rfl,rfl⟩)
  | (go_at_call 106;refine(HP.out _ (bh HR.out _)).mono ?_;rintro e w2 ⟨P,c2,rfl,_,_,b2⟩;have B2:=zh (((Below.refl _ w).alloc ao _).trans (b2.mono (by simp)):Below w.heap.size w w2);have q2:=(ae.new w 176 (hdr (fun _=>0))).below b2 (by simp);have hl2:=q2.lt;obtain⟨a0,a1,a2,a3,a4,a5,a6,a7,a8⟩:=ae.nine (show ae w2 w.heap.size 176 #[.int .i64 0,.int .i64 0,.int .i64 0,.int .i64 0,.int .i64 0,.int .i64 0,.int .i64 0,.int .i64 0,.int .i64 0]from q2);have z0:=q2.frozen 0;have z1:=q2.frozen 1;have z2:=q2.frozen 2;have z3:=q2.frozen 3;have z4:=q2.frozen 4;have z5:=q2.frozen 5;have z6:=q2.frozen 6;have z7:=q2.frozen 7;have z8:=q2.frozen 8;clear b2 q2)
  | (go_at_call 107;have B3:=zh (show Below w.heap.size w (((((((((w2.setCell ⟨w.heap.size,0,none⟩ (.int .i64 (X 0))).setCell ⟨w.heap.size,1,none⟩ (.int .i64 (X 1))).setCell ⟨w.heap.size,2,none⟩ (.int .i64 (X 2))).setCell ⟨w.heap.size,3,none⟩ (.int .i64 (X 3))).setCell ⟨w.heap.size,4,none⟩ (.int .i64 (X 4))).setCell ⟨w.heap.size,5,none⟩ (.int .i64 (X 5))).setCell ⟨w.heap.size,6,none⟩ (.int .i64 (X 6))).setCell ⟨w.heap.size,7,none⟩ (.int .i64 (X 7))).setCell ⟨w.heap.size,8,none⟩ (.int .i64 (X 8)))from (((((((((B2.out.setCell ao _).setCell ao _).setCell ao _).setCell ao _).setCell ao _).setCell ao _).setCell ao _).setCell ao _).setCell ao _));obtain⟨W3,hW3⟩:=af ((((((((((w2.setCell ⟨w.heap.size,0,none⟩ (.int .i64 (X 0))).setCell ⟨w.heap.size,1,none⟩ (.int .i64 (X 1))).setCell ⟨w.heap.size,2,none⟩ (.int .i64 (X 2))).setCell ⟨w.heap.size,3,none⟩ (.int .i64 (X 3))).setCell ⟨w.heap.size,4,none⟩ (.int .i64 (X 4))).setCell ⟨w.heap.size,5,none⟩ (.int .i64 (X 5))).setCell ⟨w.heap.size,6,none⟩ (.int .i64 (X 6))).setCell ⟨w.heap.size,7,none⟩ (.int .i64 (X 7))).setCell ⟨w.heap.size,8,none⟩ (.int .i64 (X 8))));rw[<-hW3]at B3;have hsz:W3.heap.size=w2.heap.size:=(by first|(rw[hW3];done)|(rw[hW3];simp only[World.size_setCell]));rw[<-hW3,<-hsz];clear hW3;refine(oK 192 W3.heap.size A n c z n0 (by omega) (W3.alloc (.cells #[.slice A n c] 44)) (by simp) (cell_one_new W3 (.slice A n c) _ 0 _ rfl) (bh ((HR.out.below B3.out).more (by omega)) _)).mono ?_;rintro e w5 ⟨Bx,d,rfl,hd,hF5,hR5,hB5⟩))
 rw[il];go_ret2;have BB:Below w.heap.size w w5:=(dG B3.out _).trans (hB5.mono (by simp;omega))
 exact⟨_,_,rfl,hd,hF5.mono (by have:=B3.out.size;simp;omega),hR5,HK.out.below BB hgl,ay BB⟩
end Go.Proofs.YtiiojpnckbglcaaGreat

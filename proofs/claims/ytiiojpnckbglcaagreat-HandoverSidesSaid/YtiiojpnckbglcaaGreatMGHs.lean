import Derived.Test.YtiiojpnckbglcaaGreatMGEs
import Derived.Laws.Tables
import Derived.Laws.Rows
set_option maxRecDepth 100000
set_option maxHeartbeats 400000
set_option linter.unusedVariables false
set_option linter.unusedSimpArgs false
namespace Go.Proofs.YtiiojpnckbglcaaGreat
open Go.RowKit
attribute [local go_sem ↓] Go.wp_at_zero Go.wp_at_succ
theorem jA (n:Nat) (z:Nat->Int) (j:Nat):0<=eC n z j/\eC n z j < ((2 ^ iG (j+1):Nat):Int):=by
 have hp:0 < 2 ^ iG (j+1):=Nat.two_pow_pos _;unfold eC aU
 split
 ·split
  ·have:=jG z (0+so iG (j+1)) (iG (j+1));unfold aH;omega
  ·omega
 ·omega
theorem eO (n:Nat) (z:Nat->Int) (h:dr n z=0):20<=n/\n<=9000/\jw n z=n-20:=by
 refine⟨?_,?_,?_⟩
 ·unfold dr at h;by_cases h1:n < 20
  ·rw[if_pos h1]at h;cases h
  ·omega
 ·unfold dr at h;by_cases h1:n < 20
  ·omega
  ·rw[if_neg h1]at h;by_cases h2:9000 < n
   ·rw[if_pos h2]at h;cases h
   ·omega
 ·unfold jw;rw[if_pos h]
theorem mr (x:Rx) (h0 h1 h2 h3 h4 h5 h6 h7:Int):eF x h0 h1 h2 h3 h4 h5 h6 h7=0\/(eF x h0 h1 h2 h3 h4 h5 h6 h7=1/\1<=bP x h6/\bP x h6<=255/\kT x h7 < 65536)\/(eF x h0 h1 h2 h3 h4 h5 h6 h7=2/\1<=bP x h6/\bP x h6<=255):=by
 unfold eF;by_cases hk:gN x h0 h1 h2 h3 h4 h6=true
 ·rw[if_pos hk];exact .inl rfl
 ·rw[if_neg hk];have hb:1<=bP x h6/\bP x h6<=255:=by
   unfold gN at hk;simp only[Bool.or_eq_true,decide_eq_true_eq,not_or]at hk;omega
  split
  ·exact .inr (.inr ⟨rfl,hb⟩)
  ·split
   ·exact .inr (.inl ⟨rfl,hb.1,hb.2,by assumption⟩)
   ·exact .inl rfl
theorem cJ (w:World) (cs:Array Value) (t:TypeId) (k:Nat) {u:Value} (h:cs[k]? = some u):(w.alloc (.cells cs t)).cell? ⟨w.heap.size,k,none⟩=some u:=(ae.cell (ae.new w t cs) k).trans h
theorem ul (w:World) (g:Nat) (t:TypeId) (X0 X1 X2 X3 X4 X5 X6 X7 X8 Y0 Y1 Y2 Y3 Y4 Y5 Y6 Y7 Y8:Value) (h:ae w g t #[X0,X1,X2,X3,X4,X5,X6,X7,X8]):ae ((((((((((w.setCell ⟨g,0,none⟩ Y0).setCell ⟨g,1,none⟩ Y1).setCell ⟨g,2,none⟩ Y2).setCell ⟨g,3,none⟩ Y3).setCell ⟨g,4,none⟩ Y4).setCell ⟨g,5,none⟩ Y5).setCell ⟨g,6,none⟩ Y6).setCell ⟨g,7,none⟩ Y7).setCell ⟨g,8,none⟩ Y8)) g t #[Y0,Y1,Y2,Y3,Y4,Y5,Y6,Y7,Y8]:=by
 replace h:=h.set_ 0 Y0;rw[show(#[X0,X1,X2,X3,X4,X5,X6,X7,X8]:Array Value).setIfInBounds 0 Y0=#[Y0,X1,X2,X3,X4,X5,X6,X7,X8]from rfl]at h;replace h:=h.set_ 1 Y1;rw[show(#[Y0,X1,X2,X3,X4,X5,X6,X7,X8]:Array Value).setIfInBounds 1 Y1=#[Y0,Y1,X2,X3,X4,X5,X6,X7,X8]from rfl]at h;replace h:=h.set_ 2 Y2;rw[show(#[Y0,Y1,X2,X3,X4,X5,X6,X7,X8]:Array Value).setIfInBounds 2 Y2=#[Y0,Y1,Y2,X3,X4,X5,X6,X7,X8]from rfl]at h;replace h:=h.set_ 3 Y3;rw[show(#[Y0,Y1,Y2,X3,X4,X5,X6,X7,X8]:Array Value).setIfInBounds 3 Y3=#[Y0,Y1,Y2,Y3,X4,X5,X6,X7,X8]from rfl]at h;replace h:=h.set_ 4 Y4;rw[show(#[Y0,Y1,Y2,Y3,X4,X5,X6,X7,X8]:Array Value).setIfInBounds 4 Y4=#[Y0,Y1,Y2,Y3,Y4,X5,X6,X7,X8]from rfl]at h;replace h:=h.set_ 5 Y5;rw[show(#[Y0,Y1,Y2,Y3,Y4,X5,X6,X7,X8]:Array Value).setIfInBounds 5 Y5=#[Y0,Y1,Y2,Y3,Y4,Y5,X6,X7,X8]from rfl]at h;replace h:=h.set_ 6 Y6;rw[show(#[Y0,Y1,Y2,Y3,Y4,Y5,X6,X7,X8]:Array Value).setIfInBounds 6 Y6=#[Y0,Y1,Y2,Y3,Y4,Y5,Y6,X7,X8]from rfl]at h;replace h:=h.set_ 7 Y7;rw[show(#[Y0,Y1,Y2,Y3,Y4,Y5,Y6,X7,X8]:Array Value).setIfInBounds 7 Y7=#[Y0,Y1,Y2,Y3,Y4,Y5,Y6,Y7,X8]from rfl]at h;replace h:=h.set_ 8 Y8;rw[show(#[Y0,Y1,Y2,Y3,Y4,Y5,Y6,Y7,X8]:Array Value).setIfInBounds 8 Y8=#[Y0,Y1,Y2,Y3,Y4,Y5,Y6,Y7,Y8]from rfl]at h
 exact h
theorem kQ (g:Nat) (S:Nat->Rx) (T:Int) (lb lo n c:Nat) (z:Nat->Int) (w:World) (h:CB w g true S T) (hok:∀i,i < 16->(S i).Ok) (hT:0<=T/\T < 4611686018427387904) (hp:dr n z=0) (hnc:n<=c) (hz:∀j,j < n->0<=z j/\z j < 256) (hr:au w w.heap.size (some ⟨lb,lo,none⟩) n (fun j=>.int .u8 (z j))) (hlg:lb ≠ g) :
  Calls Tryz.prog 83 #[.pointer (some ⟨g,0,none⟩),.slice (some ⟨lb,lo,none⟩) n c] w (xQ (1+(ib S T (eC n z)+(n-20))) (cF (cE S T (eC n z)) (eP S T (eC n z) n z)) 0 g (fI S T (eC n z)) (T+1) w):=by
 obtain⟨n20,n9,hLn⟩:=eO n z hp;have hgl:=h.lt;have he:bK n=0:=by unfold bK;rw[if_neg (by omega),if_neg (by omega)]
 have HB:=zh (fun o:Obj=>iQ g true S T _ (h.alloc o));have HC:=zh (fun W=>gh (some ⟨lb,lo,none⟩) n c W);rw[he]at HC;have HP:=zh (fun(W:World) (hR:au W W.heap.size (some ⟨lb,lo,none⟩) n (fun j=>.int .u8 (z j)))=>lJ (some ⟨lb,lo,none⟩) n c z hnc hz W hR);have HR:=zh hr;have HK:=zh h;have b5:=jA n z 5;have b6:=jA n z 6;have b7:=jA n z 7;unfold cV hdr at HP;rw[hLn,hp]at HP;obtain⟨X,hX⟩:=af (eC n z)
 rw[<-hX]at HP b5 b6 b7 ⊢;obtain⟨i,hi⟩:=af (bE S X)
 have hi16:i < 16:=by rw[hi];exact lQ S X
 obtain⟨D,hD⟩:=af (aB S T X)
 have hDok:D.Ok:=by
  have:=hok i hi16;rw[hD];unfold aB;rw[<-hi]
  exact⟨this.hops,this.ident,this.time,this.gen,this.step⟩
 obtain⟨o,ho⟩:=af (1+14*i)
 have HI:=zh hi;have HD:=zh hD;have HO:=zh ho;have HFI:=zh (fun W hC=>vD g true S T (X 0) (X 1) (X 2) (X 3) (X 4) W hC);have HFV:Hid (dw (fun k=>fv (X 0) (X 1) (X 2) (X 3) (X 4) (S k)) 16=i):=zh (by rw[hi];rfl);rw[HFV.out]at HFI;have HST:=zh (fun W=>dJ (X 0) (X 1) (X 2) (X 3) (X 4) (X 5) (X 6) (X 7) (X 8) W);have i1:(0:Int)<=(i:Int):=by omega
 have i2:(i:Int) < 16:=by omega
 have tw:IntKind.i64.wrap (T+1)=T+1:=IntWalk.i64_in _ (by omega);clear hX h he hp hz hr hok hi hD ho;go_enter Tryz.func83,Tryz.ntmps83;go_wp2;refine fU 0 rfl ?_;go_wp2_with (first
  | (go_at_call 88;refine(HB.out _).mono ?_;rintro e w1 ⟨rfl,rfl⟩)
  | (go_at_call 43;refine(HC.out _).mono ?_;rintro e w1 ⟨rfl,rfl⟩)
  | (go_at_call 106;refine(HP.out _ (bh HR.out _)).mono ?_;rintro e w2 ⟨P,c2,rfl,hc2,hown,b2⟩;have HOWN:=zh hown;have B2:=zh (((Below.refl _ w).alloc ao _).trans (b2.mono (by simp)):Below w.heap.size w w2);have q2:=(ae.new w 176 (hdr (fun _=>0))).below b2 (by simp);have hl2:=q2.lt;obtain⟨a0,a1,a2,a3,a4,a5,a6,a7,a8⟩:=ae.nine (show ae w2 w.heap.size 176 #[.int .i64 0,.int .i64 0,.int .i64 0,.int .i64 0,.int .i64 0,.int .i64 0,.int .i64 0,.int .i64 0,.int .i64 0]from q2);have z0:=q2.frozen 0;have z1:=q2.frozen 1;have z2:=q2.frozen 2;have z3:=q2.frozen 3;have z4:=q2.frozen 4;have z5:=q2.frozen 5;have z6:=q2.frozen 6;have z7:=q2.frozen 7;have z8:=q2.frozen 8;have Q2:=zh q2;clear b2 q2 hown)
  | (go_at_call 109;obtain⟨P',c3,hpe,_,_,hfr,RP2⟩:=dn (f:=fun j=>.int .u8 (z (20+j))) HOWN.out (fun j hj=>by simp[hj]);obtain⟨rfl,rfl⟩:P'=P/\c3=c2:=(by(cases hpe;exact⟨rfl,rfl⟩));have HFR:=zh hfr;clear hfr hpe HOWN;have B3:=zh (show Below w.heap.size w (((((((((w2.setCell ⟨w.heap.size,0,none⟩ (.int .i64 (X 0))).setCell ⟨w.heap.size,1,none⟩ (.int .i64 (X 1))).setCell ⟨w.heap.size,2,none⟩ (.int .i64 (X 2))).setCell ⟨w.heap.size,3,none⟩ (.int .i64 (X 3))).setCell ⟨w.heap.size,4,none⟩ (.int .i64 (X 4))).setCell ⟨w.heap.size,5,none⟩ (.int .i64 (X 5))).setCell ⟨w.heap.size,6,none⟩ (.int .i64 (X 6))).setCell ⟨w.heap.size,7,none⟩ (.int .i64 (X 7))).setCell ⟨w.heap.size,8,none⟩ (.int .i64 (X 8)))from (((((((((B2.out.setCell ao _).setCell ao _).setCell ao _).setCell ao _).setCell ao _).setCell ao _).setCell ao _).setCell ao _).setCell ao _));have KG:=zh (show bI w.heap.size w2 (((((((((w2.setCell ⟨w.heap.size,0,none⟩ (.int .i64 (X 0))).setCell ⟨w.heap.size,1,none⟩ (.int .i64 (X 1))).setCell ⟨w.heap.size,2,none⟩ (.int .i64 (X 2))).setCell ⟨w.heap.size,3,none⟩ (.int .i64 (X 3))).setCell ⟨w.heap.size,4,none⟩ (.int .i64 (X 4))).setCell ⟨w.heap.size,5,none⟩ (.int .i64 (X 5))).setCell ⟨w.heap.size,6,none⟩ (.int .i64 (X 6))).setCell ⟨w.heap.size,7,none⟩ (.int .i64 (X 7))).setCell ⟨w.heap.size,8,none⟩ (.int .i64 (X 8)))from by(unfold bI;repeat (first | with_reducible exact World.grownBy_refl _ _ | with_reducible refine aQ ?_ _ _)));have H3:=zh (show ae (((((((((w2.setCell ⟨w.heap.size,0,none⟩ (.int .i64 (X 0))).setCell ⟨w.heap.size,1,none⟩ (.int .i64 (X 1))).setCell ⟨w.heap.size,2,none⟩ (.int .i64 (X 2))).setCell ⟨w.heap.size,3,none⟩ (.int .i64 (X 3))).setCell ⟨w.heap.size,4,none⟩ (.int .i64 (X 4))).setCell ⟨w.heap.size,5,none⟩ (.int .i64 (X 5))).setCell ⟨w.heap.size,6,none⟩ (.int .i64 (X 6))).setCell ⟨w.heap.size,7,none⟩ (.int .i64 (X 7))).setCell ⟨w.heap.size,8,none⟩ (.int .i64 (X 8))) w.heap.size 176 #[.int .i64 (X 0),.int .i64 (X 1),.int .i64 (X 2),.int .i64 (X 3),.int .i64 (X 4),.int .i64 (X 5),.int .i64 (X 6),.int .i64 (X 7),.int .i64 (X 8)]from (ul w2 w.heap.size _ _ _ _ _ _ _ _ _ _ _ _ _ _ _ _ _ _ _ Q2.out));obtain⟨W3,hW3⟩:=af ((((((((((w2.setCell ⟨w.heap.size,0,none⟩ (.int .i64 (X 0))).setCell ⟨w.heap.size,1,none⟩ (.int .i64 (X 1))).setCell ⟨w.heap.size,2,none⟩ (.int .i64 (X 2))).setCell ⟨w.heap.size,3,none⟩ (.int .i64 (X 3))).setCell ⟨w.heap.size,4,none⟩ (.int .i64 (X 4))).setCell ⟨w.heap.size,5,none⟩ (.int .i64 (X 5))).setCell ⟨w.heap.size,6,none⟩ (.int .i64 (X 6))).setCell ⟨w.heap.size,7,none⟩ (.int .i64 (X 7))).setCell ⟨w.heap.size,8,none⟩ (.int .i64 (X 8))));rw[<-hW3]at B3 KG H3;have hsz:W3.heap.size=w2.heap.size:=(by first|(rw[hW3];done)|(rw[hW3];simp only[World.size_setCell]));rw[<-hW3];have RP3:=zh (show au W3 W3.heap.size P' (n-20) (fun j=>.int .u8 (z (20+j)))from by(rw[hsz];exact KG.out.row RP2 ao (fun a e=>by have:=HFR.out a e;simp at this;omega)));clear hW3 KG RP2 a0 a1 a2 a3 a4 a5 a6 a7 a8 z0 z1 z2 z3 z4 z5 z6 z7 z8 Q2;refine(HST.out W3).mono ?_;rintro e w4 ⟨rfl,b4⟩;have hl3:w.heap.size < W3.heap.size:=(by(rw[hsz];exact hl2));have B4:=zh (B3.out.trans (b4.mono (Nat.le_of_lt hl3)):Below w.heap.size w w4);have H4:=zh (H3.out.below b4 hl3);have RP4:=zh ((RP3.out.below b4).more b4.size);clear b4 H3 RP3 B3)
  | (go_at_call 108;refine(HFI.out w4 (HK.out.below B4.out hgl)).mono ?_;rintro e w5 ⟨rfl,b5'⟩;have B5:=zh (B4.out.trans (b5'.mono B4.out.size):Below w.heap.size w w5);have H5:=zh (H4.out.below b5' H4.out.lt);have RP5:=zh ((RP4.out.below b5').more b5'.size);have K5:=zh (HK.out.below B5.out hgl);have t5:=K5.out.turn_;have f5:=K5.out.fr 225;have f6:w5.frozen? ⟨g,1+i*14+13,none⟩=false:=K5.out.fr _;have f7:w5.cell? ⟨g,1+i*14+13,none⟩=some (.int .i64 (S i).turn):=K5.out.ctx hi16 13 (by decide) (by omega);have f8:¬1+i*14+13=225:=(by omega);have f9:¬225=1+i*14+13:=(by omega);have g1:¬w.heap.size=g:=(by omega);have g2:¬g=w.heap.size:=(by omega);have y0:w5.cell? ⟨w.heap.size,0,none⟩=some (.int .i64 (X 0)):=H5.out.cell 0;have y1:w5.cell? ⟨w.heap.size,1,none⟩=some (.int .i64 (X 1)):=H5.out.cell 1;have y2:w5.cell? ⟨w.heap.size,2,none⟩=some (.int .i64 (X 2)):=H5.out.cell 2;have y3:w5.cell? ⟨w.heap.size,3,none⟩=some (.int .i64 (X 3)):=H5.out.cell 3;have y4:w5.cell? ⟨w.heap.size,4,none⟩=some (.int .i64 (X 4)):=H5.out.cell 4;have y5:w5.cell? ⟨w.heap.size,5,none⟩=some (.int .i64 (X 5)):=H5.out.cell 5;have y6:w5.cell? ⟨w.heap.size,6,none⟩=some (.int .i64 (X 6)):=H5.out.cell 6;have y7:w5.cell? ⟨w.heap.size,7,none⟩=some (.int .i64 (X 7)):=H5.out.cell 7;have y8:w5.cell? ⟨w.heap.size,8,none⟩=some (.int .i64 (X 8)):=H5.out.cell 8;clear b5' H4 RP4 B4)
  | (go_at_call 110;have ED:=zh (show D={ S i with turn:=T+1 } from by(rw[HD.out,HI.out];rfl));have K6:=zh (show CB ((w5.setCell ⟨g,225,none⟩ (.int .i64 (T+1))).setCell ⟨g,1+i*14+13,none⟩ (.int .i64 (T+1))) g true (an S i D) (T+1)from by(rw[ED.out];exact((K5.out.setTurn (T+1)).self i).turnc_ hi16 (by omega) (T+1)));have G6:=zh (show bI g w5 ((w5.setCell ⟨g,225,none⟩ (.int .i64 (T+1))).setCell ⟨g,1+i*14+13,none⟩ (.int .i64 (T+1)))from by(unfold bI;exact aQ (aQ (World.grownBy_refl _ _) _ _) _ _));obtain⟨W6,hW6⟩:=af (((w5.setCell ⟨g,225,none⟩ (.int .i64 (T+1))).setCell ⟨g,1+i*14+13,none⟩ (.int .i64 (T+1))));rw[<-hW6]at K6 G6;rw[<-hW6];have hs6:W6.heap.size=w5.heap.size:=(by(rw[hW6];simp only[World.size_setCell]));clear hW6;have KK:=vL g i (1+i*14) true (an S i D) (T+1) (X 0) (X 1) (X 2) (X 3) (X 4) (X 5) (X 6) (X 7) (X 8) hi16 (by omega) (by rw[aW];exact hDok) b6 b7 W6 K6.out;rw[aW]at KK;refine KK.mono ?_;rintro e w7 ⟨rfl,b7'⟩;clear KK)
  )
 have H7:=zh ((G6.out.blk H5.out (by omega)).below b7' (by rw[hs6];exact H5.out.lt));have K7:=zh (K6.out.below b7' K6.out.lt);have kc:=mr D (X 0) (X 1) (X 2) (X 3) (X 4) (X 5) (X 6) (X 7);clear y0 y1 y2 y3 y4 y5 y6 y7 y8 t5 f5 f6 f7;rcases kc with hk | ⟨hk,n1,n2,t1⟩ | ⟨hk,n1,n2⟩
 ·rw[hk];have y0:w7.cell? ⟨w.heap.size,0,none⟩=some (.int .i64 (X 0)):=H7.out.cell 0;have y1:w7.cell? ⟨w.heap.size,1,none⟩=some (.int .i64 (X 1)):=H7.out.cell 1;have y2:w7.cell? ⟨w.heap.size,2,none⟩=some (.int .i64 (X 2)):=H7.out.cell 2;have y3:w7.cell? ⟨w.heap.size,3,none⟩=some (.int .i64 (X 3)):=H7.out.cell 3;have y4:w7.cell? ⟨w.heap.size,4,none⟩=some (.int .i64 (X 4)):=H7.out.cell 4;have y5:w7.cell? ⟨w.heap.size,5,none⟩=some (.int .i64 (X 5)):=H7.out.cell 5;have y6:w7.cell? ⟨w.heap.size,6,none⟩=some (.int .i64 (X 6)):=H7.out.cell 6;have y7:w7.cell? ⟨w.heap.size,7,none⟩=some (.int .i64 (X 7)):=H7.out.cell 7;have y8:w7.cell? ⟨w.heap.size,8,none⟩=some (.int .i64 (X 8)):=H7.out.cell 8;have rz6:=G6.out.row (HR.out.below B5.out) B5.out.size (fun a e=>by cases e;exact hlg);have rz7:=rz6.below (b7'.mono (by rw[hs6];exact B5.out.size));have RZ7:=zh (show au w7.drew w7.drew.heap.size (some ⟨lb,lo,none⟩) n (fun j=>.int .u8 (z j))from au.drew (rz7.more (by have e1:=b7'.size;rw[hs6]at e1;exact ba B5.out.size e1)));clear rz6 rz7;have hix:∀W:World,(Instr.index 186 (.agg #[.func (.func 111) #[] #[],.func (.func 112) #[] #[],.func (.func 113) #[] #[]]) (.int .i64 0)).run Tryz.prog W=.ok (.func (.func 111) #[] #[]) W:=fun W=>by kernel_rfl
  go_region_held3 (fun w'=>w'.cell? ⟨w.heap.size,0,none⟩=some (.int .i64 (X 0))/\w'.cell? ⟨w.heap.size,1,none⟩=some (.int .i64 (X 1))/\w'.cell? ⟨w.heap.size,2,none⟩=some (.int .i64 (X 2))/\w'.cell? ⟨w.heap.size,3,none⟩=some (.int .i64 (X 3))/\w'.cell? ⟨w.heap.size,4,none⟩=some (.int .i64 (X 4))/\w'.cell? ⟨w.heap.size,5,none⟩=some (.int .i64 (X 5))/\w'.cell? ⟨w.heap.size,6,none⟩=some (.int .i64 (X 6))/\w'.cell? ⟨w.heap.size,7,none⟩=some (.int .i64 (X 7))/\w'.cell? ⟨w.heap.size,8,none⟩=some (.int .i64 (X 8))) (go_keep) (first
   | (go_at_call 111;refine(uZ g i (1+i*14) true (an S i D) (T+1) (X 0) (X 1) (X 2) (X 3) (X 4) (X 5) (X 6) (X 7) (X 8) lb lo n c z hi16 (by omega) (by omega) hnc w7.drew K7.out.drew RZ7.out hlg).mono ?_;rintro e w8 ⟨A8,c8,rfl,hc8,R8',K8',G8'⟩;have R8:=zh R8';have K8:=zh K8';have G8:=zh G8';have H8:=zh (G8'.blk (show ae w7.drew w.heap.size _ _ from H7.out) (by omega));clear R8' K8' G8';obtain⟨v0,v1,v2,v3,v4,v5,v6,v7,v8⟩:=H8.out.nine)
   | (go_at_call 107;have SZ8:w5.heap.size<=w8.heap.size:=(by have e1:=b7'.size;have e2:=G8.out.size;have e3:w7.drew.heap.size=w7.heap.size:=rfl;omega);have hgP:∀a,P'=some a->a.block ≠ g:=(fun a e=>by have:=HFR.out a e;simp at this;omega);have r6:au W6 w5.heap.size P' (n-20) (fun j=>.int .u8 (z (20+j))):=G6.out.row RP5.out ao hgP;have r7:au w7 w5.heap.size P' (n-20) (fun j=>.int .u8 (z (20+j))):=r6.below (b7'.mono (Nat.le_of_eq hs6.symm));have RP8:=zh ((G8.out.row (show au w7.drew w5.heap.size P' (n-20) (fun j=>.int .u8 (z (20+j)))from r7) (by have e1:=b7'.size;show _<=w7.heap.size;omega) hgP).more SZ8);refine(gR _ w8.heap.size A8 P' 19 c8 (n-20) c3 _ _ (by decide) (by omega) (w8.alloc (.cells #[.slice A8 19 c8,.slice P' (n-20) c3] 44)) (by simp) (cJ w8 _ _ 0 rfl) (bh R8.out _) (cJ w8 _ _ 1 rfl) (bh RP8.out _)).mono ?_;rintro e w9 ⟨B9,d9,rfl,hd9,F9,R9,b9⟩;have H9:=zh ((H8.out.alloc _).below b9 (by have:=H8.out.lt;simp;omega));obtain⟨u0,u1,u2,u3,u4,u5,u6,u7,u8⟩:=H9.out.nine)
   )
  go_wp2;rw[il];go_ret2;have e0:cU S T X=0:=by unfold cU;rw[<-HD.out];exact hk
  have e1:ib S T X=19:=by unfold ib;rw[e0];rfl
  have e2:dg S T X=(fq D (X 0) (X 1) (X 2) (X 3) (X 4) (X 5) (X 6) (X 7)):=by unfold dg;rw[e0,if_pos rfl,<-HD.out]
  have e3:fI S T X=an S i (fq D (X 0) (X 1) (X 2) (X 3) (X 4) (X 5) (X 6) (X 7)):=by unfold fI;rw[e2,<-HI.out]
  have e4:cE S T X=0+4*(i:Int):=by unfold cE;rw[e0,<-HI.out];omega
  have hu:IntKind.u8.wrap (bits .or .i64 (IntKind.i64.wrap 0) (IntKind.i64.wrap ((i:Int)*4)))=0+4*(i:Int):=(by decide:∀i:Fin 16,IntKind.u8.wrap (bits .or .i64 (IntKind.i64.wrap 0) (IntKind.i64.wrap ((i.1:Int)*4)))=0+4*(i.1:Int)) ⟨i,hi16⟩
  have G9:bI g w w9:=((((ay B5.out).trans G6.out).trans (ay b7')).trans (ca (World.grownBy_refl _ _):bI g w7 w7.drew)).trans (G8.out.trans (ay (((Below.refl _ w8).alloc ao _).trans (b9.mono (by simp)))));have K9:CB w9 g true (an (an S i D) i (fq ((an S i D) i) (X 0) (X 1) (X 2) (X 3) (X 4) (X 5) (X 6) (X 7))) (T+1):=(K8.out.alloc _).below b9 (by have:=K8.out.lt;simp;omega);have R9b:=R9;rw[hu]at R9b;refine⟨B9,d9,?_,?_,F9.mono (by have q5:=B5.out.size;have q8:w5.heap.size<=w8.heap.size:=(by have e1:=b7'.size;have e2:=G8.out.size;have e3:w7.drew.heap.size=w7.heap.size:=rfl;omega);simp;omega),?_,?_,G9⟩
  ·rw[e1];rfl
  ·rw[e1];exact hd9
  ·have ey:(fun j=>cF (cE S T X) (eP S T X n z) j)=cF (0+4*(i:Int)) (fun j=>if j < 19 then (if j=0 then (fq D (X 0) (X 1) (X 2) (X 3) (X 4) (X 5) (X 6) (X 7)).gen else z (j-1)) else z (20+(j-19))):=by
    funext j
    rw[e4];congr 1
    funext j
    unfold eP;simp[de,aK,ly,e0,e1,e2]
   rw[e1];have h9:=R9b;rw[aW]at h9;show au w9 w9.heap.size B9 (1+(19+(n-20))) (fun j=>Value.int .u8 ((fun j=>cF (cE S T X) (eP S T X n z) j) j));rw[ey]
   exact h9
  ·have k9:=K9;rw[e3];rw[aW,mp]at k9;exact k9
 ·rw[hk];have y0:w7.cell? ⟨w.heap.size,0,none⟩=some (.int .i64 (X 0)):=H7.out.cell 0;have y1:w7.cell? ⟨w.heap.size,1,none⟩=some (.int .i64 (X 1)):=H7.out.cell 1;have y2:w7.cell? ⟨w.heap.size,2,none⟩=some (.int .i64 (X 2)):=H7.out.cell 2;have y3:w7.cell? ⟨w.heap.size,3,none⟩=some (.int .i64 (X 3)):=H7.out.cell 3;have y4:w7.cell? ⟨w.heap.size,4,none⟩=some (.int .i64 (X 4)):=H7.out.cell 4;have y5:w7.cell? ⟨w.heap.size,5,none⟩=some (.int .i64 (X 5)):=H7.out.cell 5;have y6:w7.cell? ⟨w.heap.size,6,none⟩=some (.int .i64 (X 6)):=H7.out.cell 6;have y7:w7.cell? ⟨w.heap.size,7,none⟩=some (.int .i64 (X 7)):=H7.out.cell 7;have y8:w7.cell? ⟨w.heap.size,8,none⟩=some (.int .i64 (X 8)):=H7.out.cell 8;have hix:∀W:World,(Instr.index 186 (.agg #[.func (.func 111) #[] #[],.func (.func 112) #[] #[],.func (.func 113) #[] #[]]) (.int .i64 1)).run Tryz.prog W=.ok (.func (.func 112) #[] #[]) W:=fun W=>by kernel_rfl
  go_region_held3 (fun w'=>w'.cell? ⟨w.heap.size,0,none⟩=some (.int .i64 (X 0))/\w'.cell? ⟨w.heap.size,1,none⟩=some (.int .i64 (X 1))/\w'.cell? ⟨w.heap.size,2,none⟩=some (.int .i64 (X 2))/\w'.cell? ⟨w.heap.size,3,none⟩=some (.int .i64 (X 3))/\w'.cell? ⟨w.heap.size,4,none⟩=some (.int .i64 (X 4))/\w'.cell? ⟨w.heap.size,5,none⟩=some (.int .i64 (X 5))/\w'.cell? ⟨w.heap.size,6,none⟩=some (.int .i64 (X 6))/\w'.cell? ⟨w.heap.size,7,none⟩=some (.int .i64 (X 7))/\w'.cell? ⟨w.heap.size,8,none⟩=some (.int .i64 (X 8))) (go_keep) (first
   | (go_at_call 112;refine(uD g i (1+i*14) true (an S i D) (T+1) (X 0) (X 1) (X 2) (X 3) (X 4) (X 5) (X 6) (X 7) (X 8) _ hi16 (by omega) (by rw[aW];exact hDok) b5 b6 b7 (by rw[aW];exact n1) (by rw[aW];exact n2) (by rw[aW];exact t1) w7.drew K7.out.drew).mono ?_;rintro e w8 ⟨A8,c8,rfl,hc8,R8',K8',G8'⟩;have R8:=zh R8';have K8:=zh K8';have G8:=zh G8';have H8:=zh (G8'.blk (show ae w7.drew w.heap.size _ _ from H7.out) (by omega));clear R8' K8' G8';obtain⟨v0,v1,v2,v3,v4,v5,v6,v7,v8⟩:=H8.out.nine)
   | (go_at_call 107;have SZ8:w5.heap.size<=w8.heap.size:=(by have e1:=b7'.size;have e2:=G8.out.size;have e3:w7.drew.heap.size=w7.heap.size:=rfl;omega);have hgP:∀a,P'=some a->a.block ≠ g:=(fun a e=>by have:=HFR.out a e;simp at this;omega);have r6:au W6 w5.heap.size P' (n-20) (fun j=>.int .u8 (z (20+j))):=G6.out.row RP5.out ao hgP;have r7:au w7 w5.heap.size P' (n-20) (fun j=>.int .u8 (z (20+j))):=r6.below (b7'.mono (Nat.le_of_eq hs6.symm));have RP8:=zh ((G8.out.row (show au w7.drew w5.heap.size P' (n-20) (fun j=>.int .u8 (z (20+j)))from r7) (by have e1:=b7'.size;show _<=w7.heap.size;omega) hgP).more SZ8);refine(gR _ w8.heap.size A8 P' 5 c8 (n-20) c3 _ _ (by decide) (by omega) (w8.alloc (.cells #[.slice A8 5 c8,.slice P' (n-20) c3] 44)) (by simp) (cJ w8 _ _ 0 rfl) (bh R8.out _) (cJ w8 _ _ 1 rfl) (bh RP8.out _)).mono ?_;rintro e w9 ⟨B9,d9,rfl,hd9,F9,R9,b9⟩;have H9:=zh ((H8.out.alloc _).below b9 (by have:=H8.out.lt;simp;omega));obtain⟨u0,u1,u2,u3,u4,u5,u6,u7,u8⟩:=H9.out.nine)
   )
  go_wp2;rw[il];go_ret2;have e0:cU S T X=1:=by unfold cU;rw[<-HD.out];exact hk
  have e1:ib S T X=5:=by unfold ib;rw[e0];rfl
  have e2:dg S T X=(dD D (X 5) (X 6) (X 7) (kT D (X 7) / bP D (X 6))):=by unfold dg;rw[e0,if_neg (by decide),if_pos rfl,<-HD.out]
  have e3:fI S T X=an S i (dD D (X 5) (X 6) (X 7) (kT D (X 7) / bP D (X 6))):=by unfold fI;rw[e2,<-HI.out]
  have e4:cE S T X=64+4*(i:Int):=by unfold cE;rw[e0,<-HI.out];omega
  have hu:IntKind.u8.wrap (bits .or .i64 (IntKind.i64.wrap 64) (IntKind.i64.wrap ((i:Int)*4)))=64+4*(i:Int):=(by decide:∀i:Fin 16,IntKind.u8.wrap (bits .or .i64 (IntKind.i64.wrap 64) (IntKind.i64.wrap ((i.1:Int)*4)))=64+4*(i.1:Int)) ⟨i,hi16⟩
  have G9:bI g w w9:=((((ay B5.out).trans G6.out).trans (ay b7')).trans (ca (World.grownBy_refl _ _):bI g w7 w7.drew)).trans (G8.out.trans (ay (((Below.refl _ w8).alloc ao _).trans (b9.mono (by simp)))));have K9:CB w9 g true (an (an S i D) i (dD ((an S i D) i) (X 5) (X 6) (X 7) (kT ((an S i D) i) (X 7) / bP ((an S i D) i) (X 6)))) (T+1):=(K8.out.alloc _).below b9 (by have:=K8.out.lt;simp;omega);have R9b:=R9;rw[hu]at R9b;refine⟨B9,d9,?_,?_,F9.mono (by have q5:=B5.out.size;have q8:w5.heap.size<=w8.heap.size:=(by have e1:=b7'.size;have e2:=G8.out.size;have e3:w7.drew.heap.size=w7.heap.size:=rfl;omega);simp;omega),?_,?_,G9⟩
  ·rw[e1];rfl
  ·rw[e1];exact hd9
  ·have ey:(fun j=>cF (cE S T X) (eP S T X n z) j)=cF (64+4*(i:Int)) (fun j=>if j < 5 then ([(dD D (X 5) (X 6) (X 7) (kT D (X 7) / bP D (X 6))).gen,bP D (X 6),kT D (X 7) / 256,kT D (X 7) % 256,X 5]:List Int).getD j 0 else z (20+(j-5))):=by
    funext j
    rw[e4];congr 1
    funext j
    unfold eP;simp[de,aK,ly,e0,e1,e2,<-HD.out]
   rw[e1];have h9:=R9b;rw[aW]at h9;show au w9 w9.heap.size B9 (1+(5+(n-20))) (fun j=>Value.int .u8 ((fun j=>cF (cE S T X) (eP S T X n z) j) j));rw[ey]
   exact h9
  ·have k9:=K9;rw[e3];rw[aW,mp]at k9;exact k9
 ·rw[hk];have y0:w7.cell? ⟨w.heap.size,0,none⟩=some (.int .i64 (X 0)):=H7.out.cell 0;have y1:w7.cell? ⟨w.heap.size,1,none⟩=some (.int .i64 (X 1)):=H7.out.cell 1;have y2:w7.cell? ⟨w.heap.size,2,none⟩=some (.int .i64 (X 2)):=H7.out.cell 2;have y3:w7.cell? ⟨w.heap.size,3,none⟩=some (.int .i64 (X 3)):=H7.out.cell 3;have y4:w7.cell? ⟨w.heap.size,4,none⟩=some (.int .i64 (X 4)):=H7.out.cell 4;have y5:w7.cell? ⟨w.heap.size,5,none⟩=some (.int .i64 (X 5)):=H7.out.cell 5;have y6:w7.cell? ⟨w.heap.size,6,none⟩=some (.int .i64 (X 6)):=H7.out.cell 6;have y7:w7.cell? ⟨w.heap.size,7,none⟩=some (.int .i64 (X 7)):=H7.out.cell 7;have y8:w7.cell? ⟨w.heap.size,8,none⟩=some (.int .i64 (X 8)):=H7.out.cell 8;have hix:∀W:World,(Instr.index 186 (.agg #[.func (.func 111) #[] #[],.func (.func 112) #[] #[],.func (.func 113) #[] #[]]) (.int .i64 2)).run Tryz.prog W=.ok (.func (.func 113) #[] #[]) W:=fun W=>by kernel_rfl
  go_region_held3 (fun w'=>w'.cell? ⟨w.heap.size,0,none⟩=some (.int .i64 (X 0))/\w'.cell? ⟨w.heap.size,1,none⟩=some (.int .i64 (X 1))/\w'.cell? ⟨w.heap.size,2,none⟩=some (.int .i64 (X 2))/\w'.cell? ⟨w.heap.size,3,none⟩=some (.int .i64 (X 3))/\w'.cell? ⟨w.heap.size,4,none⟩=some (.int .i64 (X 4))/\w'.cell? ⟨w.heap.size,5,none⟩=some (.int .i64 (X 5))/\w'.cell? ⟨w.heap.size,6,none⟩=some (.int .i64 (X 6))/\w'.cell? ⟨w.heap.size,7,none⟩=some (.int .i64 (X 7))/\w'.cell? ⟨w.heap.size,8,none⟩=some (.int .i64 (X 8))) (go_keep) (first
   | (go_at_call 113;refine(oZ g i (1+i*14) true (an S i D) (T+1) (X 0) (X 1) (X 2) (X 3) (X 4) (X 5) (X 6) (X 7) (X 8) _ hi16 (by omega) (by rw[aW];exact hDok) b6 b7 (by rw[aW];exact n1) (by rw[aW];exact n2) w7.drew K7.out.drew).mono ?_;rintro e w8 ⟨A8,c8,rfl,hc8,R8',K8',G8'⟩;have R8:=zh R8';have K8:=zh K8';have G8:=zh G8';have H8:=zh (G8'.blk (show ae w7.drew w.heap.size _ _ from H7.out) (by omega));clear R8' K8' G8';obtain⟨v0,v1,v2,v3,v4,v5,v6,v7,v8⟩:=H8.out.nine)
   | (go_at_call 107;have SZ8:w5.heap.size<=w8.heap.size:=(by have e1:=b7'.size;have e2:=G8.out.size;have e3:w7.drew.heap.size=w7.heap.size:=rfl;omega);have hgP:∀a,P'=some a->a.block ≠ g:=(fun a e=>by have:=HFR.out a e;simp at this;omega);have r6:au W6 w5.heap.size P' (n-20) (fun j=>.int .u8 (z (20+j))):=G6.out.row RP5.out ao hgP;have r7:au w7 w5.heap.size P' (n-20) (fun j=>.int .u8 (z (20+j))):=r6.below (b7'.mono (Nat.le_of_eq hs6.symm));have RP8:=zh ((G8.out.row (show au w7.drew w5.heap.size P' (n-20) (fun j=>.int .u8 (z (20+j)))from r7) (by have e1:=b7'.size;show _<=w7.heap.size;omega) hgP).more SZ8);refine(gR _ w8.heap.size A8 P' 2 c8 (n-20) c3 _ _ (by decide) (by omega) (w8.alloc (.cells #[.slice A8 2 c8,.slice P' (n-20) c3] 44)) (by simp) (cJ w8 _ _ 0 rfl) (bh R8.out _) (cJ w8 _ _ 1 rfl) (bh RP8.out _)).mono ?_;rintro e w9 ⟨B9,d9,rfl,hd9,F9,R9,b9⟩;have H9:=zh ((H8.out.alloc _).below b9 (by have:=H8.out.lt;simp;omega));obtain⟨u0,u1,u2,u3,u4,u5,u6,u7,u8⟩:=H9.out.nine)
   )
  go_wp2;rw[il];go_ret2;have e0:cU S T X=2:=by unfold cU;rw[<-HD.out];exact hk
  have e1:ib S T X=2:=by unfold ib;rw[e0];rfl
  have e2:dg S T X=D:=by unfold dg;rw[e0,if_neg (by decide),if_neg (by decide)];exact HD.out.symm
  have e3:fI S T X=an S i D:=by unfold fI;rw[e2,<-HI.out]
  have e4:cE S T X=128+4*(i:Int):=by unfold cE;rw[e0,<-HI.out];omega
  have hu:IntKind.u8.wrap (bits .or .i64 (IntKind.i64.wrap 128) (IntKind.i64.wrap ((i:Int)*4)))=128+4*(i:Int):=(by decide:∀i:Fin 16,IntKind.u8.wrap (bits .or .i64 (IntKind.i64.wrap 128) (IntKind.i64.wrap ((i.1:Int)*4)))=128+4*(i.1:Int)) ⟨i,hi16⟩
  have G9:bI g w w9:=((((ay B5.out).trans G6.out).trans (ay b7')).trans (ca (World.grownBy_refl _ _):bI g w7 w7.drew)).trans (G8.out.trans (ay (((Below.refl _ w8).alloc ao _).trans (b9.mono (by simp)))));have K9:CB w9 g true (an S i D) (T+1):=(K8.out.alloc _).below b9 (by have:=K8.out.lt;simp;omega);have R9b:=R9;rw[hu]at R9b;refine⟨B9,d9,?_,?_,F9.mono (by have q5:=B5.out.size;have q8:w5.heap.size<=w8.heap.size:=(by have e1:=b7'.size;have e2:=G8.out.size;have e3:w7.drew.heap.size=w7.heap.size:=rfl;omega);simp;omega),?_,?_,G9⟩
  ·rw[e1];rfl
  ·rw[e1];exact hd9
  ·have ey:(fun j=>cF (cE S T X) (eP S T X n z) j)=cF (128+4*(i:Int)) (fun j=>if j < 2 then ([D.gen,bP D (X 6)]:List Int).getD j 0 else z (20+(j-2))):=by
    funext j
    rw[e4];congr 1
    funext j
    unfold eP;simp[de,aK,ly,e0,e1,<-HD.out]
   rw[e1];have h9:=R9b;rw[aW]at h9;show au w9 w9.heap.size B9 (1+(2+(n-20))) (fun j=>Value.int .u8 ((fun j=>cF (cE S T X) (eP S T X n z) j) j));rw[ey]
   exact h9
  ·have k9:=K9;rw[e3];exact k9
def hk (id:Nat) (j:Nat):Int:=([1,2,3,4,5,6,(id:Int),8,0]:List Int).getD j 0
def S0:Nat->Rx:=fun _=>Rx.zero
end Go.Proofs.YtiiojpnckbglcaaGreat
namespace Go.Proofs.YtiiojpnckbglcaaGreat
open Go.RowKit
theorem lu (S:Nat->Rx) (T:Int) (X:Nat->Int) (h:cU S T X ≠ 0):(S (bE S X)).used=true/\(S (bE S X)).need=false/\dX (S (bE S X)).f0 (S (bE S X)).f1 (S (bE S X)).f2 (S (bE S X)).f3 (S (bE S X)).f4 (X 0) (X 1) (X 2) (X 3) (X 4)=true/\1<=bP (aB S T X) (X 6)/\bP (aB S T X) (X 6)<=255:=by
 unfold cU eF at h;by_cases hn:gN (aB S T X) (X 0) (X 1) (X 2) (X 3) (X 4) (X 6)=true
 ·rw[if_pos hn]at h;exact absurd rfl h
 ·unfold gN at hn;simp only[Bool.or_eq_true,Bool.not_eq_true',decide_eq_true_eq,not_or]at hn;obtain⟨a,b,c,d,e⟩:=hn;have ht:(aB S T X)={ S (bE S X)with turn:=T+1 }:=rfl;refine⟨by simpa[ht]using a,by simpa[ht]using b,by simpa[ht]using c,by omega,by omega⟩
end Go.Proofs.YtiiojpnckbglcaaGreat
namespace Go.Proofs.YtiiojpnckbglcaaGreat
open Go.RowKit
attribute [local go_sem ↓] Go.wp_at_zero Go.wp_at_succ
def eJ (S:Nat->Rx) (T:Int) (n:Nat) (z:Nat->Int):Nat:=if bK n ≠ 0 then 0 else if dr n z ≠ 0 then 1+n else 1+(ib S T (eC n z)+(n-20))
def vV (S:Nat->Rx) (T:Int) (n:Nat) (z:Nat->Int):Nat->Int:=if dr n z ≠ 0 then cF 192 z else cF (cE S T (eC n z)) (eP S T (eC n z) n z)
def ya (S:Nat->Rx) (T:Int) (n:Nat) (z:Nat->Int):Nat->Rx:=if dr n z ≠ 0 then S else fI S T (eC n z)
def yb (T:Int) (n:Nat) (z:Nat->Int):Int:=if dr n z ≠ 0 then T else T+1
theorem vX (n:Nat) (z:Nat->Int) (h:bK n ≠ 0):dr n z ≠ 0:=by
 intro hp;obtain⟨h1,h2,_⟩:=eO n z hp
 exact h (by unfold bK;rw[if_neg (by omega),if_neg (by omega)])
theorem mK (g:Nat) (S:Nat->Rx) (T:Int) (A:Option Addr) (n c:Nat) (z:Nat->Int) (w:World) (h:CB w g true S T) (hok:∀i,i < 16->(S i).Ok) (hT:0<=T/\T < 4611686018427387904) (hnc:n<=c) (hz:∀j,j < n->0<=z j/\z j < 256) (hr:au w w.heap.size A n (fun j=>.int .u8 (z j))) (hlg:∀a,A=some a->a.block ≠ g) :
  Calls Tryz.prog 83 #[.pointer (some ⟨g,0,none⟩),.slice A n c] w (xQ (eJ S T n z) (vV S T n z) (bK n) g (ya S T n z) (yb T n z) w):=by
 unfold eJ vV ya yb;by_cases he:bK n=0
 ·rw[if_neg (not_not_intro he),he];by_cases hp:dr n z=0
  ·rw[if_neg (not_not_intro hp),if_neg (not_not_intro hp),if_neg (not_not_intro hp),if_neg (not_not_intro hp)];obtain⟨n20,_,_⟩:=eO n z hp;obtain⟨lb,lo,rfl,_,_⟩:=hr (by omega)
   exact kQ g S T lb lo n c z w h hok hT hp hnc hz hr (hlg _ rfl)
  ·rw[if_pos hp,if_pos hp,if_pos hp,if_pos hp]
   exact mu g S T A n c z w h he hp hnc hz hr
 ·have hp:=vX n z he;rw[if_pos he,if_pos hp,if_pos hp,if_pos hp]
  exact(mj g S T A n c w h he).mono fun e w' ⟨h1,h2⟩=>⟨none,0,h1,Nat.le_refl _,gH _,au.nil,CB.below h h2 h.lt,ay h2⟩
end Go.Proofs.YtiiojpnckbglcaaGreat

import Derived.Test.YtiiojpnckbglcaaGreatMMQs
import Derived.Deep.RegionHeld3
import Derived.Laws.BitsAllLaws
set_option maxRecDepth 100000
set_option maxHeartbeats 4000000
set_option linter.unusedVariables false
set_option linter.unusedSimpArgs false
namespace Go.Proofs.YtiiojpnckbglcaaGreat
open Go.RowKit Go.Shelf
attribute [local go_sem] Oper.semAt_some
def yF (m:Nat) (z:Nat->Int) (w:World) (e:Ending) (w':World):Prop:=
 ∃A c,e=.returned (.tuple #[.agg (qX 0 (bH m z) A (dB m z) c none 0 0),.int .i64 (dE m z)])/\au w' w'.heap.size A (dB m z) (fun j=>.bool (bO (pay z) j))/\Below w.heap.size w w'/\cj w.heap.size A
def yW (m:Nat) (z:Nat->Int) (w:World) (e:Ending) (w':World):Prop:=
 ∃A c B d,e=.returned (.tuple #[.agg (qX (fR m z) (dN m z) A (iZ m z) c B (eL m z) d),.int .i64 (jx m z)])/\au w' w'.heap.size A (iZ m z) (fun j=>.bool (bO (pay (dz z)) j))/\au w' w'.heap.size B (eL m z) (fun j=>.int .u8 (dz z j))/\Below w.heap.size w w'/\cj w.heap.size A
theorem o8 (m c:Nat) (A:Option Addr) (z:Nat->Int) (w:World) (hm:m<=maxLen) (hmc:m<=c) (hz:∀j,j < m->0<=z j/\z j < 256) (hr:au w w.heap.size A m (fun j=>.int .u8 (z j))) :
  Calls Tryz.prog 71 #[.slice A m c] w (yF m z w):=by
 unfold maxLen at hm;by_cases h4:m < 4
 ·have e1:dE m z=5:=by unfold dE;rw[if_pos h4]
  have e2:bH m z=0/\dB m z=0:=by unfold bH dB;rw[e1];simp
  have E:=zh (And.intro e1 e2);clear e1 e2 hr hz;go_enter Tryz.func71,Tryz.ntmps71;go_wp2;obtain⟨e1,e2,e3⟩:=E.out;refine bodyPost_ret (v:=.tuple #[.agg #[.int .i64 0,.int .u32 0,.slice none 0 0,.slice none 0 0],.int .i64 5]) (by simp[results,Tryz.results71,go_sem]) rfl ⟨none,0,by rw[e1,e2,e3];rfl,by rw[e3];exact au.nil,?_⟩
  exact⟨(Below.refl w.heap.size w).alloc ao _,fun a h=>by cases h⟩
 ·obtain⟨lb,lo,rfl,hlb,hlc⟩:=hr (by omega);have HL:=zh hlc;have HZ:=zh hz;have l0:w.cell? ⟨lb,lo,none⟩=some (.int .u8 (z 0)):=hlc 0 (by omega);have l1:w.cell? ⟨lb,lo+1,none⟩=some (.int .u8 (z 1)):=hlc 1 (by omega);have l2:w.cell? ⟨lb,lo+2,none⟩=some (.int .u8 (z 2)):=hlc 2 (by omega);have l3:w.cell? ⟨lb,lo+3,none⟩=some (.int .u8 (z 3)):=hlc 3 (by omega);have hz0:=hz 0 (by omega);have hz1:=hz 1 (by omega);have hz2:=hz 2 (by omega);have hz3:=hz 3 (by omega);obtain⟨x0,e0⟩:∃x:Nat,z 0=(x:Int):=⟨(z 0).toNat,by omega⟩
  obtain⟨x1,e1⟩:∃x:Nat,z 1=(x:Int):=⟨(z 1).toNat,by omega⟩
  obtain⟨x2,e2⟩:∃x:Nat,z 2=(x:Int):=⟨(z 2).toNat,by omega⟩
  obtain⟨x3,e3⟩:∃x:Nat,z 3=(x:Int):=⟨(z 3).toNat,by omega⟩
  rw[e0]at l0 hz0;rw[e1]at l1 hz1;rw[e2]at l2 hz2;rw[e3]at l3 hz3;have HE:=zh (And.intro e0 (And.intro e1 (And.intro e2 e3)));clear hlc hr hz e0 e1 e2 e3;have hm0:(4:Int)<=(m:Int):=by omega
  refine(callsIn_wide (n:=8)).1 ?_;refine callsIn_of_wp_marks Tryz.func71 rfl trivial ?_ rfl;simp only[Tryz.ntmps71,List.size_toArray,List.length_cons,List.length_nil,Nat.reduceAdd,Nat.reduceSub,Array.replicate_succ,Array.replicate_zero,List.push_toArray,List.append_toArray,List.nil_append,List.cons_append]
  gi_wp2
  refine wpIn_wide.2 ?_;obtain⟨W1,hW1⟩:=af (w.alloc (.cells #[.int .i64 0,.int .u32 0,.slice none 0 0,.slice none 0 0] 72))
  have b1:Below w.heap.size w W1:=by rw[hW1];exact(Below.refl w.heap.size w).alloc ao _
  have z1:W1.heap.size=w.heap.size+1:=by rw[hW1];simp
  have B1:ae W1 w.heap.size 72 #[.int .i64 0,.int .u32 0,.slice none 0 0,.slice none 0 0]:=by rw[hW1];exact ae.new _ _ _
  rw[<-hW1];have m0:W1.cell? ⟨lb,lo,none⟩=some (.int .u8 x0):=(b1.cell (p:=⟨lb,lo,none⟩) hlb).trans l0;have m1:W1.cell? ⟨lb,lo+1,none⟩=some (.int .u8 x1):=(b1.cell (p:=⟨lb,lo+1,none⟩) hlb).trans l1;have m2:W1.cell? ⟨lb,lo+2,none⟩=some (.int .u8 x2):=(b1.cell (p:=⟨lb,lo+2,none⟩) hlb).trans l2;have m3:W1.cell? ⟨lb,lo+3,none⟩=some (.int .u8 x3):=(b1.cell (p:=⟨lb,lo+3,none⟩) hlb).trans l3;clear l0 l1 l2 l3 hW1;have i0:(0:Int) < (m:Int):=by omega
  have i1:(1:Int) < (m:Int):=by omega
  have i2:(2:Int) < (m:Int):=by omega
  have i3:(3:Int) < (m:Int):=by omega
  have j0:0 < m:=by omega
  have j1:1 < m:=by omega
  have j2:2 < m:=by omega
  have j3:3 < m:=by omega
  go_region_held3 (fun w'=>w'.cell? ⟨lb,lo,none⟩=some (.int .u8 x0)/\w'.cell? ⟨lb,lo+1,none⟩=some (.int .u8 x1)/\w'.cell? ⟨lb,lo+2,none⟩=some (.int .u8 x2)/\w'.cell? ⟨lb,lo+3,none⟩=some (.int .u8 x3)) (go_keep) ((fail));have hU:=yR x0 x1 x2 x3 (by omega) (by omega) (by omega) (by omega);rw[hU];obtain⟨U,hU2⟩:∃U:Nat,U=((x0*256+x1)*256+x2)*256+x3:=⟨_,rfl⟩
  have hfu:fu z 4=(U:Int):=by
   obtain⟨e0,e1,e2,e3⟩:=HE.out;rw[hU2];simp only[fu,e0,e1,e2,e3];omega
  have HFU:=zh hfu;rw[<-hU2];have hslice:=xL lb lo m c (by omega) hmc;clear hU hU2 hfu HE m0 m1 m2 m3;obtain⟨lo4,hsl,hlo4⟩:=hslice;have HLO:=zh hlo4;clear hlo4;obtain⟨W2,hW2⟩:=af ((W1.alloc (.cells #[.int .i64 0,.int .u32 (U:Int),.slice none 0 0,.slice none 0 0] 72)).drew)
  have b2:Below (w.heap.size+1) W1 W2:=by rw[hW2];exact((Below.refl _ W1).alloc (by omega) _).drew
  have z2:W2.heap.size=w.heap.size+2:=by rw[hW2];simp[z1]
  have B2:ae W2 (w.heap.size+1) 72 #[.int .i64 0,.int .u32 (U:Int),.slice none 0 0,.slice none 0 0]:=by rw[hW2,<-z1];exact(ae.new _ _ _).drew
  have R2:ae W2 w.heap.size 72 #[.int .i64 0,.int .u32 0,.slice none 0 0,.slice none 0 0]:=B1.below b2 (by omega);have bb2:Below w.heap.size w W2:=b1.trans (b2.mono (by omega));rw[<-hW2];have HB2:=zh B2;have HR2:=zh R2;clear hW2 B1 B2 R2;have hm4:((m-4:Nat):Int)=(m:Int)-4:=by omega
  by_cases hbig:260 < m
  ·have e1:dE m z=4:=by unfold dE;rw[if_neg h4,if_pos hbig]
   have e2:bH m z=0/\dB m z=0:=by unfold bH dB;rw[e1];simp
   have E:=zh (And.intro e1 e2);clear e1 e2 hm4;have hb':(256:Int) < ((m-4:Nat):Int):=by omega
   obtain⟨c0,c1,c2,c3,f0,f1,f2,f3⟩:=HR2.out.four
   gi_wp2
   obtain⟨e1,e2,e3⟩:=E.out;obtain⟨y0,y1,y2,y3,_,_,_,_⟩:=ae.four (a:=.int .i64 0) (b:=.int .u32 0) (c:=.slice none 0 0) (d:=.slice none 0 0) ((((HR2.out.set_ 0 (.int .i64 0)).set_ 1 (.int .u32 0)).set_ 2 (.slice none 0 0)).set_ 3 (.slice none 0 0));refine⟨.tuple #[.agg #[.int .i64 0,.int .u32 0,.slice none 0 0,.slice none 0 0],.int .i64 4],by simp[results,Tryz.results71,go_sem,y0,y1,y2,y3],none,0,by rw[e1,e2,e3];rfl,by rw[e3];exact au.nil,?_⟩
   exact⟨(((bb2.setCell ao _).setCell ao _).setCell ao _).setCell ao _,fun a h=>by cases h⟩
  ·have hb':((m-4:Nat):Int)<=256:=by omega
   obtain⟨q,hq⟩:=af (m-4)
   rw[<-hq]at hb' hsl;have HQ:=zh hq;clear hm4 hq
   gi_wp2_with (refine⟨trivial,?_⟩;gi_at_call 100;refine(callsIn_wide.2 (sg _ _ _ _)).mono ?_;rintro e w3 ⟨rfl,rfl⟩)
   obtain⟨W4,hW4⟩:=af ((W2.alloc (.cells #[.slice none 0 0] 70)).alloc (.cells #[.slice (some ⟨lb,lo4,none⟩) q (c-4)] 44))
   have b4:Below W2.heap.size W2 W4:=by rw[hW4];exact((Below.refl _ W2).alloc ao _).alloc (by simp) _
   have z4:W4.heap.size=w.heap.size+4:=by rw[hW4];simp[z2]
   have B4:Boxed W4 (w.heap.size+2) 70 (.slice none 0 0):=by rw[hW4,<-z2];exact(Boxed.new W2 70 (.slice none 0 0)).alloc _
   have D4:ae W4 (w.heap.size+3) 44 #[.slice (some ⟨lb,lo4,none⟩) q (c-4)]:=by
    rw[hW4];have:=ae.new (W2.alloc (.cells #[.slice none 0 0] 70)) 44 #[.slice (some ⟨lb,lo4,none⟩) q (c-4)];rw[World.size_alloc,z2]at this
    exact this
   have R4:au W4 w.heap.size (some ⟨lb,lo4,none⟩) q (fun j=>.int .u8 (pay z j)):=fun hq=>by
    have:=HQ.out;refine⟨lb,lo4,rfl,hlb,fun j hj=>?_⟩;rw[HLO.out (by omega)];have h1:=(b4.cell (p:=⟨lb,lo+(4+j),none⟩) (by simp;omega)).trans ((bb2.cell (p:=⟨lb,lo+(4+j),none⟩) hlb).trans (HL.out (4+j) (by omega)));rw[Nat.add_assoc];exact h1
   have bb4:Below w.heap.size w W4:=bb2.trans (b4.mono (by omega));rw[<-hW4];clear hW4;have hqq:q<=256:=by omega
   have hseq:=pT q (c-4) (some ⟨lb,lo4,none⟩) (pay z) hqq (fun j hj=>HZ.out (4+j) (by have:=HQ.out;omega)) (w.heap.size+3) (w.heap.size+4) (w.heap.size+2) 7 W4 (by omega) (by omega) (by omega) D4 w.heap.size (by omega) (by omega) R4 (by decide);have HC:=zh (And.intro b4 (And.intro D4 (And.intro R4 bb4)));obtain⟨i0,hi0,hz0,hz1,hz2⟩:=info_parts Tryz.infoBool;clear R4 D4 b4 bb4;refine wpIn_rangeFunc_ownF rfl (by decide) (gf:=121) (lb:=#[.pointer (some ⟨w.heap.size+2+1,0,none⟩)]) rfl trivial (enters_of Tryz.func121 (by kernel_rfl) rfl)
    hseq bG.trans (rM (by omega)) (Below.refl _ _) (fun _=>rfl)
    (fun pre W=>(∃v,Boxed W (w.heap.size+2) 70 v/\W.ownsRow (w.heap.size+4) 4 1 v pre.length (pre.map Value.bool)/\True)/\Below (w.heap.size+2) W4 W)
    (fun c pre W=>False)
    (OwnFrom.and (Own.from (holdsRow_own (w.heap.size+4) (w.heap.size+2) 70 4 1 (fun s:List Bool=>s.length) (fun s=>s.map Value.bool) (fun _ _=>True)) _) (ownFrom_below (by omega) (by omega)))
    (fun c s A B row hs hg hr=>hs)
    ⟨⟨_,B4,World.ownsRow_nil _ _ _ _,trivial⟩,Below.refl _ _⟩
    ?a1 ?assign ?body ?done ?stop
   case assign=>
    intro l x W K hK
    gi_wp2
    exact hK
   case body=>
    rintro l pre x W ⟨⟨v,hbx,hown,_⟩,hBW⟩ hlen;have hc:=hbx.cell;have hbs:=hBW.size;have hpl:pre.length < 2048+1:=by omega
    gi_wp2_with (gi_at_builtin;refine wpListIn_append_own _ rfl _ _ 70 rfl (w.heap.size+4) 4 i0 (.bool false) 1 1 Tryz.underlying70 hi0 hz0 hz1 hz2 rfl (by decide) _ _ _ rfl (hown.alloc _) ⟨W.heap.size,0,none⟩ 1 1 [.bool x] rfl rfl (cell_one_new _ _ _) (by simp[Value.oneCell']) (by unfold maxLen;omega) (by omega) (by simp;omega) ?_;intro v' w1 hown' hgrow _;obtain⟨g',cap',rfl⟩:=ownsRow_succ hown';obtain⟨hv1,hv2,hr2,hk2,hb2⟩:=hbx.appended (by decide) (aT hown (by omega)) (by omega:w.heap.size+2<=W.heap.size) ao (aT hown' (by omega)) hgrow;have hc1:=hv1.cell;have hf1:=hv1.frozen)
    have hown2:(w1.setCell ⟨w.heap.size+2,0,none⟩ (.slice (some ⟨g',0,none⟩) (pre.length+1) cap')).ownsRow (w.heap.size+4) 4 1 (.slice (some ⟨g',0,none⟩) (pre.length+1) cap') (pre.length+1) (pre.map Value.bool++[.bool x]):=
     hown'.kept (grownBy_setCell' w1 (w.heap.size+2) _) (.inr (hv1.not_row (by decide) hown').symm)
    refine⟨hk2,fun b h1 h2=>?_,⟨_,hv2,by simpa using hown2,trivial⟩,hBW.trans hb2⟩;have hne:some b ≠ v.ownBlock:=fun e=>by have:=(hown.lt b e.symm).1;omega
    rw[Below.heap_setCell w1 _ _ b (by simpa using h2),hgrow.block b (by simp;omega) hne,Below.heap_alloc W _ b (by omega)]
   case stop=>
    rintro D c pre W _ _ h _
    exact h.elim
   case done=>
    rintro D xs W hD rfl ⟨⟨v,hbx,hown,_⟩,hBW⟩ hK;obtain⟨hb4,hD4,hR4,hbb4⟩:=HC.out;obtain⟨N8,hN8⟩:=af (8*q)
    rw[ky,<-hN8]at hown;obtain⟨A,cap,rfl,hcap,hcapm,hfr,hrow⟩:=dn (f:=fun j=>.bool (bO (pay z) j)) hown (fun j hj=>by simp[dZ,hj]);have HN:=zh hN8;have HRow:=zh hrow;have hN2048:N8<=2048:=by omega
    have hc:=hbx.cell;have HRW:=zh (hR4.below (hBW.mono (by omega)));have HBW:=zh (hbb4.trans (hBW.mono (by omega)));have HRes:=zh ((HR2.out.below hb4 (by omega)).below hBW (by omega));have HCtl:=zh ((HB2.out.below hb4 (by omega)).below hBW (by omega));unfold maxLen at hcapm;have HFR:=zh hfr;clear hown hN8 hrow hfr hb4 hD4 hR4 hbb4
    gi_wp2
    gi_loopw [7] (fun v wr=>∃k:Nat,k<=N8/\v=.int .i64 k/\(∀j,k<=j->j < N8->bO (pay z) j=false)/\wr=W) (fun v _=>(intOf v).toNat)
    case atStart=>exact⟨N8,Nat.le_refl _,rfl,fun j h1 h2=>by omega,rfl⟩
    case round=>
     obtain⟨k,hk,rfl,hz8,rfl⟩:=hrel;have HZ8:=zh hz8;clear hz8;by_cases hk0:0 < k
     ·obtain⟨rb,ro,rfl,hrb,hrc⟩:=HRow.out (by omega);have hki:(0:Int) < (k:Int):=by omega
      have hcell:wr.cell? ⟨rb,ro+(k-1),none⟩=some (.bool (bO (pay z) (k-1))):=hrc (k-1) (by omega);have hkb:((k:Int)-1) < (N8:Int):=by omega
      clear hrc
      cases hbv:bO (pay z) (k-1) with
      | false=>
       rw[hbv]at hcell;have HBV:=zh hbv;clear hbv
       gi_wp2
       go_roundw
       case rel=>exact⟨k-1,by omega,by go_num,fun j h1 h2=>by
        by_cases hj:j=k-1
        ·rw[hj];exact HBV.out
        ·exact HZ8.out j (by omega) h2,trivial⟩
       case measure=>simp[intOf];omega
      | true=>
       rw[hbv]at hcell;have hkL:k=ll m z:=by
        have h1:=HQ.out;have h2:=HN.out;unfold ll;rw[<-h1,<-h2]
        exact(fG _ _ _ hk (fun _=>hbv) HZ8.out).symm
       clear hbv;clear HZ8;have HKL:=zh hkL;clear hkL;obtain⟨c0,c1,c2,c3,f0,f1,f2,f3⟩:=HRes.out.four;obtain⟨d0,d1,d2,d3,g0,g1,g2,g3⟩:=HCtl.out.four;have hDW:D < wr.heap.size:=(Array.getElem?_eq_some_iff.1 hK).1;have hDg:D ≠ w.heap.size:=by omega
       have hDg1:D ≠ w.heap.size+1:=by omega
       have HD:=zh hK;clear hK;by_cases hL2:2047 < k
       ·have e1:dE m z=4:=by unfold dE;rw[if_neg h4,if_neg hbig,<-HKL.out,if_pos hL2]
        have e2:bH m z=0/\dB m z=0:=by unfold bH dB;rw[e1];simp
        have E:=zh (And.intro e1 e2);clear e1 e2;have hL3:(2047:Int) < (k:Int):=by omega
        gi_wp2
        have hK2:=ec hDg HD.out (.int .i64 0) (.int .u32 0) (.slice none 0 0) (.slice none 0 0);refine⟨by simp,.inl ⟨_,_,rfl,run_takeDeferred hK2,?_⟩⟩;obtain⟨y0,y1,y2,y3,_,_,_,_⟩:=ae.four (a:=.int .i64 0) (b:=.int .u32 0) (c:=.slice none 0 0) (d:=.slice none 0 0) (((((HRes.out.set_ 0 (.int .i64 0)).set_ 1 (.int .u32 0)).set_ 2 (.slice none 0 0)).set_ 3 (.slice none 0 0)).put (Ne.symm hDg) (.deferred none));obtain⟨e1,e2,e3⟩:=E.out;refine⟨.tuple #[.agg #[.int .i64 0,.int .u32 0,.slice none 0 0,.slice none 0 0],.int .i64 4],by simp[results,Tryz.results71,go_sem,y0,y1,y2,y3],none,0,by rw[e1,e2,e3];rfl,by rw[e3];exact au.nil,?_⟩
        exact⟨(((((HBW.out.setCell ao _).setCell ao _).setCell ao _).setCell ao _)).grown (grownBy_putObj' _ D _) (by simp;omega) (fun k e=>by cases e;omega),fun a h=>by cases h⟩
       ·have hL3:(k:Int)<=2047:=by omega
        by_cases hq0:q=0
        ·have hm4:¬(4 < m/\z (m-1)=0):=by have:=HQ.out;omega
         have e1:dE m z=0:=by unfold dE;rw[if_neg h4,if_neg hbig,<-HKL.out,if_neg hL2,if_neg hm4]
         have E:=zh e1;clear e1 hm4;subst hq0
         gi_wp2
         have hX:(wr.setCell ⟨w.heap.size+1,2,none⟩ (.slice (some ⟨rb,ro,none⟩) k k)).heap[D]? = some (.deferred (some [])):=by rw[Below.heap_setCell _ _ _ D hDg1];exact HD.out
         have hK2:=ec hDg hX (.int .i64 0) (.int .u32 (U:Int)) (.slice (some ⟨rb,ro,none⟩) k k) (.slice none 0 0);refine⟨by simp,.inl ⟨_,_,rfl,run_takeDeferred hK2,?_⟩⟩;have RX:=HRes.out.far (p:=⟨w.heap.size+1,2,none⟩) (by simp) (.slice (some ⟨rb,ro,none⟩) k k);obtain⟨y0,y1,y2,y3,_,_,_,_⟩:=ae.four (a:=.int .i64 0) (b:=.int .u32 (U:Int)) (c:=.slice (some ⟨rb,ro,none⟩) k k) (d:=.slice none 0 0) (((((RX.set_ 0 (.int .i64 0)).set_ 1 (.int .u32 (U:Int))).set_ 2 (.slice (some ⟨rb,ro,none⟩) k k)).set_ 3 (.slice none 0 0)).put (Ne.symm hDg) (.deferred none));have e1:=E.out;have rX:=(HRow.out.take (m:=k) (by omega)).apart HCtl.out (by intro i hi j;have hi4:i < 4:=hi;match i,hi4 with | 0,_=>simp | 1,_=>simp | 2,_=>simp | 3,_=>simp) (p:=⟨w.heap.size+1,2,none⟩) rfl (.slice (some ⟨rb,ro,none⟩) k k);refine⟨.tuple #[.agg #[.int .i64 0,.int .u32 (U:Int),.slice (some ⟨rb,ro,none⟩) k k,.slice none 0 0],.int .i64 0],by simp[results,Tryz.results71,go_sem,y0,y1,y2,y3],(some ⟨rb,ro,none⟩),k,by unfold bH dB qX;rw[e1,if_pos rfl,if_pos rfl,HFU.out,<-HKL.out],?_,?_⟩
         ·unfold dB;rw[e1,if_pos rfl,<-HKL.out]
          exact(rX.four_stores RX (by intro u j hu;simp at hu;rcases hu with rfl | rfl | rfl | rfl | rfl | rfl | rfl | rfl<;>simp)).put hK2 rfl _
         ·exact⟨((((((HBW.out.setCell (Nat.le_succ _) _).setCell ao _).setCell ao _).setCell ao _).setCell ao _)).grown (grownBy_putObj' _ D _) (by simp;omega) (fun k e=>by cases e;omega),fun a h=>ba (by omega) (HFR.out a h)⟩
        ·have hq1:0 < q:=by omega
         have hm4:4 < m:=by have:=HQ.out;omega
         have hq1i:(0:Int) < (q:Int):=by omega
         have hqm:((q:Int)-1) < (q:Int):=by omega
         have hcl:wr.cell? ⟨lb,lo4+(q-1),none⟩=some (.int .u8 (z (m-1))):=by
          obtain⟨b',o',e,_,hc'⟩:=HRW.out hq1
          cases e
          have h1:=hc' (q-1) (by omega);rw[h1];show some (Value.int .u8 (z (4+(q-1))))=_;rw[show 4+(q-1)=m-1 by have:=HQ.out;omega]
         obtain⟨zl,hzl⟩:=af (z (m-1))
         rw[<-hzl]at hcl;by_cases hz0:zl=0
         ·have e1:dE m z=9:=by unfold dE;rw[if_neg h4,if_neg hbig,<-HKL.out,if_neg hL2,if_pos ⟨hm4,by rw[<-hzl];exact hz0⟩]
          have e2:bH m z=0/\dB m z=0:=by unfold bH dB;rw[e1];simp
          have E:=zh (And.intro e1 e2);clear e1 e2 hzl;subst hz0
          gi_wp2
          have hK2:=ec hDg HD.out (.int .i64 0) (.int .u32 0) (.slice none 0 0) (.slice none 0 0);refine⟨by simp,.inl ⟨_,_,rfl,run_takeDeferred hK2,?_⟩⟩;obtain⟨y0,y1,y2,y3,_,_,_,_⟩:=ae.four (a:=.int .i64 0) (b:=.int .u32 0) (c:=.slice none 0 0) (d:=.slice none 0 0) (((((HRes.out.set_ 0 (.int .i64 0)).set_ 1 (.int .u32 0)).set_ 2 (.slice none 0 0)).set_ 3 (.slice none 0 0)).put (Ne.symm hDg) (.deferred none));obtain⟨e1,e2,e3⟩:=E.out;refine⟨.tuple #[.agg #[.int .i64 0,.int .u32 0,.slice none 0 0,.slice none 0 0],.int .i64 9],by simp[results,Tryz.results71,go_sem,y0,y1,y2,y3],none,0,by rw[e1,e2,e3];rfl,by rw[e3];exact au.nil,?_⟩
          exact⟨(((((HBW.out.setCell ao _).setCell ao _).setCell ao _).setCell ao _)).grown (grownBy_putObj' _ D _) (by simp;omega) (fun k e=>by cases e;omega),fun a h=>by cases h⟩
         ·have e1:dE m z=0:=by unfold dE;rw[if_neg h4,if_neg hbig,<-HKL.out,if_neg hL2,if_neg (by rw[<-hzl];intro h;exact hz0 h.2)]
          have E:=zh e1;have hz1:(zl == 0)=false:=by simpa using hz0
          clear e1 hzl
          gi_wp2
          have hX:(wr.setCell ⟨w.heap.size+1,2,none⟩ (.slice (some ⟨rb,ro,none⟩) k k)).heap[D]? = some (.deferred (some [])):=by rw[Below.heap_setCell _ _ _ D hDg1];exact HD.out
          have hK2:=ec hDg hX (.int .i64 0) (.int .u32 (U:Int)) (.slice (some ⟨rb,ro,none⟩) k k) (.slice none 0 0);refine⟨by simp,.inl ⟨_,_,rfl,run_takeDeferred hK2,?_⟩⟩;have RX:=HRes.out.far (p:=⟨w.heap.size+1,2,none⟩) (by simp) (.slice (some ⟨rb,ro,none⟩) k k);obtain⟨y0,y1,y2,y3,_,_,_,_⟩:=ae.four (a:=.int .i64 0) (b:=.int .u32 (U:Int)) (c:=.slice (some ⟨rb,ro,none⟩) k k) (d:=.slice none 0 0) (((((RX.set_ 0 (.int .i64 0)).set_ 1 (.int .u32 (U:Int))).set_ 2 (.slice (some ⟨rb,ro,none⟩) k k)).set_ 3 (.slice none 0 0)).put (Ne.symm hDg) (.deferred none));have e1:=E.out;have rX:=(HRow.out.take (m:=k) (by omega)).apart HCtl.out (by intro i hi j;have hi4:i < 4:=hi;match i,hi4 with | 0,_=>simp | 1,_=>simp | 2,_=>simp | 3,_=>simp) (p:=⟨w.heap.size+1,2,none⟩) rfl (.slice (some ⟨rb,ro,none⟩) k k);refine⟨.tuple #[.agg #[.int .i64 0,.int .u32 (U:Int),.slice (some ⟨rb,ro,none⟩) k k,.slice none 0 0],.int .i64 0],by simp[results,Tryz.results71,go_sem,y0,y1,y2,y3],(some ⟨rb,ro,none⟩),k,by unfold bH dB qX;rw[e1,if_pos rfl,if_pos rfl,HFU.out,<-HKL.out],?_,?_⟩
          ·unfold dB;rw[e1,if_pos rfl,<-HKL.out]
           exact(rX.four_stores RX (by intro u j hu;simp at hu;rcases hu with rfl | rfl | rfl | rfl | rfl | rfl | rfl | rfl<;>simp)).put hK2 rfl _
          ·exact⟨((((((HBW.out.setCell (Nat.le_succ _) _).setCell ao _).setCell ao _).setCell ao _).setCell ao _)).grown (grownBy_putObj' _ D _) (by simp;omega) (fun k e=>by cases e;omega),fun a h=>ba (by omega) (HFR.out a h)⟩
     ·obtain rfl:k=0:=by omega
      have hkL:0=ll m z:=by
       have h1:=HQ.out;have h2:=HN.out;unfold ll;rw[<-h1,<-h2]
       exact(fG _ _ _ hk (fun h=>absurd h (by decide)) HZ8.out).symm
      clear HZ8;have HKL:=zh hkL;clear hkL;obtain⟨c0,c1,c2,c3,f0,f1,f2,f3⟩:=HRes.out.four;obtain⟨d0,d1,d2,d3,g0,g1,g2,g3⟩:=HCtl.out.four;have hDW:D < wr.heap.size:=(Array.getElem?_eq_some_iff.1 hK).1;have hDg:D ≠ w.heap.size:=by omega
      have hDg1:D ≠ w.heap.size+1:=by omega
      have HD:=zh hK;clear hK;by_cases hL2:2047 < 0
      ·omega
      ·have hL3:(0:Int)<=2047:=by omega
       by_cases hq0:q=0
       ·have hm4:¬(4 < m/\z (m-1)=0):=by have:=HQ.out;omega
        have e1:dE m z=0:=by unfold dE;rw[if_neg h4,if_neg hbig,<-HKL.out,if_neg hL2,if_neg hm4]
        have E:=zh e1;clear e1 hm4;subst hq0
        gi_wp2
        have hX:(wr.setCell ⟨w.heap.size+1,2,none⟩ (.slice A 0 0)).heap[D]? = some (.deferred (some [])):=by rw[Below.heap_setCell _ _ _ D hDg1];exact HD.out
        have hK2:=ec hDg hX (.int .i64 0) (.int .u32 (U:Int)) (.slice A 0 0) (.slice none 0 0);refine⟨by simp,.inl ⟨_,_,rfl,run_takeDeferred hK2,?_⟩⟩;have RX:=HRes.out.far (p:=⟨w.heap.size+1,2,none⟩) (by simp) (.slice A 0 0);obtain⟨y0,y1,y2,y3,_,_,_,_⟩:=ae.four (a:=.int .i64 0) (b:=.int .u32 (U:Int)) (c:=.slice A 0 0) (d:=.slice none 0 0) (((((RX.set_ 0 (.int .i64 0)).set_ 1 (.int .u32 (U:Int))).set_ 2 (.slice A 0 0)).set_ 3 (.slice none 0 0)).put (Ne.symm hDg) (.deferred none));have e1:=E.out;have rX:=(HRow.out.take (m:=0) (by omega)).apart HCtl.out (by intro i hi j;have hi4:i < 4:=hi;match i,hi4 with | 0,_=>simp | 1,_=>simp | 2,_=>simp | 3,_=>simp) (p:=⟨w.heap.size+1,2,none⟩) rfl (.slice A 0 0);refine⟨.tuple #[.agg #[.int .i64 0,.int .u32 (U:Int),.slice A 0 0,.slice none 0 0],.int .i64 0],by simp[results,Tryz.results71,go_sem,y0,y1,y2,y3],A,0,by unfold bH dB qX;rw[e1,if_pos rfl,if_pos rfl,HFU.out,<-HKL.out],?_,?_⟩
        ·unfold dB;rw[e1,if_pos rfl,<-HKL.out]
         exact(rX.four_stores RX (by intro u j hu;simp at hu;rcases hu with rfl | rfl | rfl | rfl | rfl | rfl | rfl | rfl<;>simp)).put hK2 rfl _
        ·exact⟨((((((HBW.out.setCell (Nat.le_succ _) _).setCell ao _).setCell ao _).setCell ao _).setCell ao _)).grown (grownBy_putObj' _ D _) (by simp;omega) (fun k e=>by cases e;omega),fun a h=>ba (by omega) (HFR.out a h)⟩
       ·have hq1:0 < q:=by omega
        have hm4:4 < m:=by have:=HQ.out;omega
        have hq1i:(0:Int) < (q:Int):=by omega
        have hqm:((q:Int)-1) < (q:Int):=by omega
        have hcl:wr.cell? ⟨lb,lo4+(q-1),none⟩=some (.int .u8 (z (m-1))):=by
         obtain⟨b',o',e,_,hc'⟩:=HRW.out hq1
         cases e
         have h1:=hc' (q-1) (by omega);rw[h1];show some (Value.int .u8 (z (4+(q-1))))=_;rw[show 4+(q-1)=m-1 by have:=HQ.out;omega]
        obtain⟨zl,hzl⟩:=af (z (m-1))
        rw[<-hzl]at hcl;by_cases hz0:zl=0
        ·have e1:dE m z=9:=by unfold dE;rw[if_neg h4,if_neg hbig,<-HKL.out,if_neg hL2,if_pos ⟨hm4,by rw[<-hzl];exact hz0⟩]
         have e2:bH m z=0/\dB m z=0:=by unfold bH dB;rw[e1];simp
         have E:=zh (And.intro e1 e2);clear e1 e2 hzl;subst hz0
         gi_wp2
         have hK2:=ec hDg HD.out (.int .i64 0) (.int .u32 0) (.slice none 0 0) (.slice none 0 0);refine⟨by simp,.inl ⟨_,_,rfl,run_takeDeferred hK2,?_⟩⟩;obtain⟨y0,y1,y2,y3,_,_,_,_⟩:=ae.four (a:=.int .i64 0) (b:=.int .u32 0) (c:=.slice none 0 0) (d:=.slice none 0 0) (((((HRes.out.set_ 0 (.int .i64 0)).set_ 1 (.int .u32 0)).set_ 2 (.slice none 0 0)).set_ 3 (.slice none 0 0)).put (Ne.symm hDg) (.deferred none));obtain⟨e1,e2,e3⟩:=E.out;refine⟨.tuple #[.agg #[.int .i64 0,.int .u32 0,.slice none 0 0,.slice none 0 0],.int .i64 9],by simp[results,Tryz.results71,go_sem,y0,y1,y2,y3],none,0,by rw[e1,e2,e3];rfl,by rw[e3];exact au.nil,?_⟩
         exact⟨(((((HBW.out.setCell ao _).setCell ao _).setCell ao _).setCell ao _)).grown (grownBy_putObj' _ D _) (by simp;omega) (fun k e=>by cases e;omega),fun a h=>by cases h⟩
        ·have e1:dE m z=0:=by unfold dE;rw[if_neg h4,if_neg hbig,<-HKL.out,if_neg hL2,if_neg (by rw[<-hzl];intro h;exact hz0 h.2)]
         have E:=zh e1;have hz1:(zl == 0)=false:=by simpa using hz0
         clear e1 hzl
         gi_wp2
         have hX:(wr.setCell ⟨w.heap.size+1,2,none⟩ (.slice A 0 0)).heap[D]? = some (.deferred (some [])):=by rw[Below.heap_setCell _ _ _ D hDg1];exact HD.out
         have hK2:=ec hDg hX (.int .i64 0) (.int .u32 (U:Int)) (.slice A 0 0) (.slice none 0 0);refine⟨by simp,.inl ⟨_,_,rfl,run_takeDeferred hK2,?_⟩⟩;have RX:=HRes.out.far (p:=⟨w.heap.size+1,2,none⟩) (by simp) (.slice A 0 0);obtain⟨y0,y1,y2,y3,_,_,_,_⟩:=ae.four (a:=.int .i64 0) (b:=.int .u32 (U:Int)) (c:=.slice A 0 0) (d:=.slice none 0 0) (((((RX.set_ 0 (.int .i64 0)).set_ 1 (.int .u32 (U:Int))).set_ 2 (.slice A 0 0)).set_ 3 (.slice none 0 0)).put (Ne.symm hDg) (.deferred none));have e1:=E.out;have rX:=(HRow.out.take (m:=0) (by omega)).apart HCtl.out (by intro i hi j;have hi4:i < 4:=hi;match i,hi4 with | 0,_=>simp | 1,_=>simp | 2,_=>simp | 3,_=>simp) (p:=⟨w.heap.size+1,2,none⟩) rfl (.slice A 0 0);refine⟨.tuple #[.agg #[.int .i64 0,.int .u32 (U:Int),.slice A 0 0,.slice none 0 0],.int .i64 0],by simp[results,Tryz.results71,go_sem,y0,y1,y2,y3],A,0,by unfold bH dB qX;rw[e1,if_pos rfl,if_pos rfl,HFU.out,<-HKL.out],?_,?_⟩
         ·unfold dB;rw[e1,if_pos rfl,<-HKL.out]
          exact(rX.four_stores RX (by intro u j hu;simp at hu;rcases hu with rfl | rfl | rfl | rfl | rfl | rfl | rfl | rfl<;>simp)).put hK2 rfl _
         ·exact⟨((((((HBW.out.setCell (Nat.le_succ _) _).setCell ao _).setCell ao _).setCell ao _).setCell ao _)).grown (grownBy_putObj' _ D _) (by simp;omega) (fun k e=>by cases e;omega),fun a h=>ba (by omega) (HFR.out a h)⟩
theorem sN (m c:Nat) (A:Option Addr) (z:Nat->Int) (w:World) (hm:m<=140737488355328) (hmc:m<=c) (hz:∀j,j < m->0<=z j/\z j < 256) (hr:au w w.heap.size A m (fun j=>.int .u8 (z j))) :
  Calls Tryz.prog 29 #[.slice A m c] w (yW m z w):=by
 have HZ:=zh hz;by_cases h0:m=0
 ·have e:jx m z=5/\fR m z=0/\dN m z=0/\iZ m z=0/\eL m z=0:=by subst h0;simp[jx,fR,dN,iZ,eL]
  have K:=zh e;clear e hr hz;subst h0;go_enter Tryz.func29,Tryz.ntmps29;go_wp2;obtain⟨k1,k2,k3,k4,k5⟩:=K.out;refine bodyPost_ret (v:=.tuple #[.agg #[.int .i64 0,.int .u32 0,.slice none 0 0,.slice none 0 0],.int .i64 5]) (by simp[results,Tryz.results29,go_sem]) rfl ⟨none,0,none,0,by rw[k1,k2,k3,k4,k5];rfl,by rw[k4];exact au.nil,by rw[k5];exact au.nil,⟨(Below.refl w.heap.size w).alloc ao _,fun a h=>by cases h⟩⟩
 ·obtain⟨lb,lo,rfl,hlb,hlc⟩:=hr (by omega);have hl0:w.cell? ⟨lb,lo,none⟩=some (.int .u8 (z 0)):=hlc 0 (by omega);have HL:=zh hlc;have hm0:(0:Int) < (m:Int):=by omega
  have hmn:((m:Int) == 0)=false:=by simp;omega
  clear hlc hz hr;have hmm:=@run_makeMap Tryz.prog;obtain⟨lo1,hsl,hlo⟩:=xR lb lo m c (by omega) hmc;obtain⟨X1,X2,hu1,hu2,hbX,hmap⟩:=oV (w.alloc (.cells #[.int .i64 0,.int .u32 0,.slice none 0 0,.slice none 0 0] 72));rw[World.size_alloc]at hu1 hu2 hbX hmap;have hlX:X2.cell? ⟨lb,lo,none⟩=some (.int .u8 (z 0)):=(hbX.cell (p:=⟨lb,lo,none⟩) (by simp;omega)).trans ((World.cell?_alloc_lt w _ ⟨lb,lo,none⟩ hlb).trans hl0);have hRd:au X2 X2.heap.size (some ⟨lb,lo1,none⟩) (m-1) (fun j=>.int .u8 (dz z j)):=fun hq=>by
   refine⟨lb,lo1,rfl,by have:=hbX.size;simp at this;omega,fun j hj=>?_⟩;rw[hlo (by omega),Nat.add_assoc]
   exact(hbX.cell (p:=⟨lb,lo+(1+j),none⟩) (by simp;omega)).trans ((World.cell?_alloc_lt w _ ⟨lb,lo+(1+j),none⟩ hlb).trans (HL.out (1+j) (by omega)))
  have HX:=zh (And.intro hbX hRd);clear hbX hRd hlo hl0;have hszX:w.heap.size+1<=X2.heap.size:=by have:=HX.out.1.size;simp at this;omega
  by_cases hz0:z 0=0
  ·have e:jx m z=dE (m-1) (dz z)/\fR m z=0/\dN m z=bH (m-1) (dz z)/\iZ m z=dB (m-1) (dz z)/\eL m z=0:=by
    simp[jx,fR,dN,iZ,eL,h0,hz0,Nat.pos_of_ne_zero h0]
   have K:=zh e;rw[hz0]at hlX;have hget:=kB X2 (w.heap.size+1) jZ 2 0 (some (0,.func (.func 71) #[] #[])) hmap rfl;simp only at hget;have HSt:=zh (o8 (m-1) (c-1) (some ⟨lb,lo1,none⟩) (dz z) X2 (by unfold maxLen;omega) (by omega) (fun j hj=>HZ.out (1+j) (by omega)) HX.out.2);clear hz0 e hmap;go_enter Tryz.func29,Tryz.ntmps29;go_wp2_with (go_at_call 71;refine(HSt.out).mono ?_;rintro e w1 ⟨A1,c1,rfl,hR,hb,hfr⟩;have HFR:=zh hfr;clear hfr;unfold qX;have R0:ae w1 w.heap.size 72 #[.int .i64 0,.int .u32 0,.slice none 0 0,.slice none 0 0]:=((ae.new _ _ _).below HX.out.1 (by simp)).below hb (by omega);obtain⟨c0,c1',c2,c3,f0,f1,f2,f3⟩:=R0.four;have R:=zh R0;clear R0);obtain⟨k1,k2,k3,k4,k5⟩:=K.out;obtain⟨y0,y1,y2,y3,_,_,_,_⟩:=ae.four (a:=.int .i64 0) (b:=.int .u32 (bH (m-1) (dz z))) (c:=.slice A1 (dB (m-1) (dz z)) c1) (d:=.slice none 0 0) ((((R.out.set_ 0 (.int .i64 0)).set_ 1 (.int .u32 (bH (m-1) (dz z)))).set_ 2 (.slice A1 (dB (m-1) (dz z)) c1)).set_ 3 (.slice none 0 0));refine bodyPost_ret (v:=.tuple #[.agg #[.int .i64 0,.int .u32 (bH (m-1) (dz z)),.slice A1 (dB (m-1) (dz z)) c1,.slice none 0 0],.int .i64 (dE (m-1) (dz z))]) (by simp[results,Tryz.results29,go_sem,y0,y1,y2,y3]) rfl ⟨A1,c1,none,0,by rw[k1,k2,k3,k4,k5];rfl,?_,by rw[k5];exact au.nil,?_⟩
   ·rw[k4]
    exact hR.four_stores R.out (by intro u j hu;simp at hu;rcases hu with rfl | rfl | rfl | rfl | rfl | rfl | rfl<;>simp)
   ·exact⟨((((((((Below.refl w.heap.size w).alloc ao _).trans (HX.out.1.mono (by omega))).trans (hb.mono (by omega))).setCell ao _).setCell ao _).setCell ao _).setCell ao _),fun a h=>ba (by omega) (HFR.out a h)⟩
  ·by_cases hz16:z 0=16
   ·rw[hz16]at hlX;have e:jx m z=(if m-1=0 then 5 else 0)/\fR m z=(if m-1=0 then 0 else 1)/\dN m z=0/\iZ m z=0/\eL m z=m-1:=by
     by_cases hm1:m=1
     ·subst hm1;simp[jx,fR,dN,iZ,eL,hz16]
     ·have:1 < m:=by omega
      have h2:¬m-1=0:=by omega
      simp[jx,fR,dN,iZ,eL,hz16,hm1,h0,this,h2]
    have K:=zh e;have hget:=kB X2 (w.heap.size+1) jZ 2 16 (some (1,.func (.func 72) #[] #[])) hmap rfl;simp only at hget;have HSt:=zh (mi (some ⟨lb,lo1,none⟩) (m-1) (c-1) (dz z) X2 (by omega) HX.out.2);clear hz0 hz16 e hmap;obtain⟨kd,hkd⟩:∃kd:Int,kd=(if m-1=0 then 0 else 1):=⟨_,rfl⟩
    obtain⟨er,her⟩:∃er:Int,er=(if m-1=0 then 5 else 0):=⟨_,rfl⟩
    unfold od at HSt;rw[<-hkd,<-her]at HSt K;clear hkd her;go_enter Tryz.func29,Tryz.ntmps29;go_wp2_with (go_at_call 72;refine(HSt.out).mono ?_;rintro e w1 ⟨A1,c1,rfl,hR,hb⟩;have R0:ae w1 w.heap.size 72 #[.int .i64 0,.int .u32 0,.slice none 0 0,.slice none 0 0]:=((ae.new _ _ _).below HX.out.1 (by simp)).below hb (by omega);obtain⟨c0,c1',c2,c3,f0,f1,f2,f3⟩:=R0.four;have R:=zh R0;clear R0);obtain⟨k1,k2,k3,k4,k5⟩:=K.out;obtain⟨y0,y1,y2,y3,_,_,_,_⟩:=ae.four (a:=.int .i64 kd) (b:=.int .u32 0) (c:=.slice none 0 0) (d:=.slice A1 (m-1) c1) ((((R.out.set_ 0 (.int .i64 kd)).set_ 1 (.int .u32 0)).set_ 2 (.slice none 0 0)).set_ 3 (.slice A1 (m-1) c1));refine bodyPost_ret (v:=.tuple #[.agg #[.int .i64 kd,.int .u32 0,.slice none 0 0,.slice A1 (m-1) c1],.int .i64 er]) (by simp[results,Tryz.results29,go_sem,y0,y1,y2,y3]) rfl ⟨none,0,A1,c1,by rw[k1,k2,k3,k4,k5];rfl,by rw[k4];exact au.nil,?_,?_⟩
    ·rw[k5]
     exact hR.four_stores R.out (by intro u j hu;simp at hu;rcases hu with rfl | rfl | rfl | rfl | rfl | rfl | rfl | rfl<;>simp)
    ·exact⟨((((((((Below.refl w.heap.size w).alloc ao _).trans (HX.out.1.mono (by omega))).trans (hb.mono (by omega))).setCell ao _).setCell ao _).setCell ao _).setCell ao _),fun a h=>by cases h⟩
   ·have e:jx m z=9/\fR m z=0/\dN m z=0/\iZ m z=0/\eL m z=0:=by simp[jx,fR,dN,iZ,eL,hz16,hz0,h0]
    have K:=zh e;obtain⟨x,hx⟩:=af (z 0)
    rw[<-hx]at hlX hz0 hz16;have g1:(x == 0)=false:=by simpa using hz0
    have g2:(x == 16)=false:=by simpa using hz16
    have hget:=kB X2 (w.heap.size+1) jZ 2 x none hmap (by simp[jZ,Instr.findNow,Instr.sameNow,g1,g2]);simp only at hget;have R0:ae X2 w.heap.size 72 #[.int .i64 0,.int .u32 0,.slice none 0 0,.slice none 0 0]:=((ae.new _ _ _).below HX.out.1 (by simp))
    obtain⟨c0,c1',c2,c3,f0,f1,f2,f3⟩:=R0.four;have R:=zh R0;clear hx e R0 hmap;go_enter Tryz.func29,Tryz.ntmps29;go_wp2;obtain⟨k1,k2,k3,k4,k5⟩:=K.out;obtain⟨y0,y1,y2,y3,_,_,_,_⟩:=ae.four (a:=.int .i64 0) (b:=.int .u32 0) (c:=.slice none 0 0) (d:=.slice none 0 0) ((((R.out.set_ 0 (.int .i64 0)).set_ 1 (.int .u32 0)).set_ 2 (.slice none 0 0)).set_ 3 (.slice none 0 0));refine bodyPost_ret (v:=.tuple #[.agg #[.int .i64 0,.int .u32 0,.slice none 0 0,.slice none 0 0],.int .i64 9]) (by simp[results,Tryz.results29,go_sem,y0,y1,y2,y3]) rfl ⟨none,0,none,0,by rw[k1,k2,k3,k4,k5];rfl,by rw[k4];exact au.nil,by rw[k5];exact au.nil,?_⟩
    exact⟨(((((((Below.refl w.heap.size w).alloc ao _).trans (HX.out.1.mono (by omega))).setCell ao _).setCell ao _).setCell ao _).setCell ao _),fun a h=>by cases h⟩
end Go.Proofs.YtiiojpnckbglcaaGreat
namespace Go.Proofs.YtiiojpnckbglcaaGreat
open Go.RowKit
theorem jh (m c:Nat) (A:Option Addr) (z:Nat->Int) (w:World) (hm:m<=140737488355328) (hmc:m<=c) (hz:∀j,j < m->0<=z j/\z j < 256) (hr:au w w.heap.size A m (fun j=>.int .u8 (z j))) :
  Calls Tryz.prog 29 #[.slice A m c] w (qM m z w):=
 (sN m c A z w hm hmc hz hr).mono fun _ _ ⟨A',c',B,d,h1,h2,h3,h4,_⟩=>⟨A',c',B,d,h1,h2,h3,h4⟩
theorem fm (first:Int) (n c m d:Nat) (A B:Option Addr) (b:Nat->Bool) (z:Nat->Int) (w:World) (h0:0<=first) (hn:n<=maxLen) (hr:au w w.heap.size A n (fun j=>.bool (b j))) (hz:au w w.heap.size B m (fun j=>.int .u8 (z j)))
  (he:fd first n=0) (hl:dV first n b=m) (hv:∀j,j < m->lw first n b j=z j) :
  Calls Tryz.prog 30 #[.int .u64 first,.slice A n c,.slice B m d] w fun e w'=>e=.returned (.bool true)/\Below w.heap.size w w':=by
 have HE:=zh (vQ first n c A b w h0 hn hr);unfold fP at HE;rw[he,hl]at HE;have HV:=zh (eD hv);have HZ:=zh hz;clear he hl hv hz hr;go_enter Tryz.func30,Tryz.ntmps30;go_wp2_with (go_at_call 73;refine(HE.out).mono ?_;rintro e w1 ⟨A1,c1,rfl,hR,hb⟩;have s1:=bU 44 9 5 Tryz.underlying44 Tryz.underlying5 Tryz.underlying9 hR c1;have s2:=bU 44 9 5 Tryz.underlying44 Tryz.underlying5 Tryz.underlying9 (HZ.out.below hb) d;rw[HV.out]at s1);go_ret
 exact⟨ak (by simp),hb⟩
theorem lI (m c:Nat) (A:Option Addr) (z:Nat->Int) (w:World) (hm:m<=140737488355328) (hmc:m<=c) (hz:∀j,j < m->0<=z j/\z j < 256) (hr:au w w.heap.size A m (fun j=>.int .u8 (z j))) :
  Calls Tryz.prog 32 #[.slice A m c] w fun e w'=>e=.returned (.int .i64 (jx m z))/\Below w.heap.size w w':=by
 have HD:=zh (jh m c A z w hm hmc hz hr);unfold qM qX at HD;clear hz hr;go_enter Tryz.func32,Tryz.ntmps32;go_wp2_with (go_at_call 29;refine(HD.out).mono ?_;rintro e w1 ⟨A1,c1,B1,d1,rfl,hR,hR2,hb⟩);go_ret
 exact⟨rfl,hb.alloc hb.size _⟩
theorem yL (W:World) (N:Nat) (hN:W.heap.size=N):Calls Tryz.prog 30 #[.int .u64 5,.slice (some ⟨N,0,none⟩) 3 3,.slice (some ⟨N+1,0,none⟩) 6 6] ((W.alloc (.cells #[.bool false,.bool true,.bool false] 4)).alloc (.cells #[.int .u8 0,.int .u8 0,.int .u8 0,.int .u8 0,.int .u8 5,.int .u8 64] 5)) fun e w'=>e=.returned (.bool true)/\Below W.heap.size W w':=by
 subst hN
 exact(fm 5 3 3 6 6 _ _ (fun j=>([false,true,false]:List Bool).getD j false) _ _ (by decide) (by decide) (rG [false,true,false] ((ae.new W 4 #[.bool false,.bool true,.bool false]).alloc _) (by simp;omega)) (bZ [0,0,0,0,5,64] (by have:=ae.new (W.alloc (.cells #[.bool false,.bool true,.bool false] 4)) 5 #[.int .u8 0,.int .u8 0,.int .u8 0,.int .u8 0,.int .u8 5,.int .u8 64];rw[World.size_alloc]at this;exact this) (by simp)) (by decide) (by decide +kernel) (by decide +kernel)).mono fun _ _ h=>⟨h.1,(((Below.refl _ W).alloc ao _).alloc (by simp) _).trans (h.2.mono (by simp;try omega))⟩
theorem yY (W:World):Calls Tryz.prog 30 #[.int .u64 4294967296,.slice none 0 0,.slice (some ⟨W.heap.size,0,none⟩) 6 6] (W.alloc (.cells #[.int .u8 0,.int .u8 255,.int .u8 255,.int .u8 255,.int .u8 255,.int .u8 128] 5)) fun e w'=>e=.returned (.bool true)/\Below W.heap.size W w':=
 (fm 4294967296 0 0 6 6 _ _ (fun _=>false) _ _ (by decide) (by decide) au.nil (bZ [0,255,255,255,255,128] (ae.new W 5 #[.int .u8 0,.int .u8 255,.int .u8 255,.int .u8 255,.int .u8 255,.int .u8 128]) (by simp)) (by decide) (by decide +kernel) (by decide +kernel)).mono fun _ _ h=>⟨h.1,((Below.refl _ W).alloc ao _).trans (h.2.mono (by simp;try omega))⟩
theorem yK (W:World):Calls Tryz.prog 30 #[.int .u64 7,.slice none 0 0,.slice (some ⟨W.heap.size,0,none⟩) 5 5] (W.alloc (.cells #[.int .u8 0,.int .u8 0,.int .u8 0,.int .u8 0,.int .u8 7] 5)) fun e w'=>e=.returned (.bool true)/\Below W.heap.size W w':=
 (fm 7 0 0 5 5 _ _ (fun _=>false) _ _ (by decide) (by decide) au.nil (bZ [0,0,0,0,7] (ae.new W 5 #[.int .u8 0,.int .u8 0,.int .u8 0,.int .u8 0,.int .u8 7]) (by simp)) (by decide) (by decide +kernel) (by decide +kernel)).mono fun _ _ h=>⟨h.1,((Below.refl _ W).alloc ao _).trans (h.2.mono (by simp;try omega))⟩
theorem yo (W:World):Calls Tryz.prog 32 #[.slice (some ⟨W.heap.size,0,none⟩) 1 1] (W.alloc (.cells #[.int .u8 32] 5)) fun e w'=>e=.returned (.int .i64 9)/\Below W.heap.size W w':=
 (lI 1 1 _ (fun j=>([32]:List Int).getD j 0) _ (by decide) ao (by decide +kernel) (bZ [32] (ae.new W 5 #[.int .u8 32]) (by simp))).mono fun _ _ h=>⟨by rw[h.1];rfl,((Below.refl _ W).alloc ao _).trans (h.2.mono (by simp))⟩
theorem yu (W:World):Calls Tryz.prog 32 #[.slice (some ⟨W.heap.size,0,none⟩) 6 6] (W.alloc (.cells #[.int .u8 0,.int .u8 0,.int .u8 0,.int .u8 0,.int .u8 5,.int .u8 0] 5)) fun e w'=>e=.returned (.int .i64 9)/\Below W.heap.size W w':=
 (lI 6 6 _ (fun j=>([0,0,0,0,5,0]:List Int).getD j 0) _ (by decide) ao (by decide +kernel) (bZ [0,0,0,0,5,0] (ae.new W 5 #[.int .u8 0,.int .u8 0,.int .u8 0,.int .u8 0,.int .u8 5,.int .u8 0]) (by simp))).mono fun _ _ h=>⟨by rw[h.1];rfl,((Below.refl _ W).alloc ao _).trans (h.2.mono (by simp))⟩
theorem yP (W:World):Calls Tryz.prog 29 #[.slice (some ⟨W.heap.size,0,none⟩) 2 2] (W.alloc (.cells #[.int .u8 16,.int .u8 1] 5)) fun e w'=>∃A c B d,e=.returned (.tuple #[.agg #[.int .i64 1,.int .u32 0,.slice A 0 c,.slice B 1 d],.int .i64 0])/\au w' w'.heap.size B 1 (fun _=>.int .u8 1)/\Below W.heap.size W w':=by
 refine(jh 2 2 _ (fun j=>([16,1]:List Int).getD j 0) _ (by decide) ao (by decide +kernel) (bZ [16,1] (ae.new W 5 #[.int .u8 16,.int .u8 1]) (by simp))).mono ?_;rintro e w' ⟨A,c,B,d,rfl,_,hR,hb⟩;refine⟨A,c,B,d,rfl,?_,((Below.refl _ W).alloc ao _).trans (hb.mono (by simp))⟩
 exact au.congr hR (fun j hj=>by obtain rfl:j=0:=(by(have:j < 1:=hj);omega);rfl)
theorem qh (w:World) :
  Calls Tryz.prog 7 #[] w fun e w'=>e=.returned (.bool true)/\Below w.heap.size w w':=by
 go_enter Tryz.func7,Tryz.ntmps7;go_wp2_with (first
  | (go_at_call 29;refine(yP _).mono ?_;rintro e w1 ⟨A,c,B,d,rfl,hR,hb1⟩)
  | (go_at_call 30;((with_reducible refine(yL _ _ (by simp)).mono ?_);rintro e w2 ⟨rfl,hb2⟩;have K2:ae w2 w1.heap.size 72 #[.int .i64 1,.int .u32 0,.slice A 0 c,.slice B 1 d]:=(ae.new w1 _ _).below hb2 (by simp)))
  | (go_at_call 30;((with_reducible refine(yY _).mono ?_);rintro e w3 ⟨rfl,hb3⟩;have K3:=K2.below hb3 K2.lt))
  | (go_at_call 30;((with_reducible refine(yK _).mono ?_);rintro e w4 ⟨rfl,hb4⟩;have K4:=K3.below hb4 K3.lt;obtain⟨c0,c1,c2,c3,_,_,_,_⟩:=K4.four;have R4:=(((hR.alloc ao _).more (by simp)).next hb2).next hb3 |>.next hb4))
  | (go_at_call 31;refine(rZ 1 0 A none B _ 0 1 c 0 d 1 (fun _=>false) (fun _=>1) _ (by decide) au.nil au.nil ((R4.alloc ao _).more (by simp)) (bZ [1] (ae.new w4 5 #[.int .u8 1]) (by simp) |>.congr (fun j hj=>by obtain rfl:j=0:=(by(have:j < 1:=hj);omega);rfl))).mono ?_;rintro e w5 ⟨rfl,hb5⟩)
  | (go_at_call 32;((with_reducible refine(yo _).mono ?_);rintro e w6 ⟨rfl,hb6⟩))
  | (go_at_call 32;((with_reducible refine(yu _).mono ?_);rintro e w7 ⟨rfl,hb7⟩)))
 go_ret
 exact⟨rfl,av (av (av (dG (av (av (av (dG hb1 _) hb2) hb3) hb4) _) hb5) hb6) hb7⟩
end Go.Proofs.YtiiojpnckbglcaaGreat

import Derived.Test.YtbfpdnnphdagjaaGreatML7y
import Derived.Test.YtbfpdnnphdagjaaGreatMVy
import Derived.Test.YtbfpdnnphdagjaaGreatMN3y
import Derived.Test.YtbfpdnnphdagjaaGreatMZOy
import Derived.Deep.DeepCutAuto
import Derived.Deep.CutRange
import Derived.Deep.CutBlock
import Derived.Test.YtbfpdnnphdagjaaGreatB1y
set_option maxRecDepth 100000
set_option maxHeartbeats 12800000
set_option linter.unusedVariables false
set_option linter.unusedSimpArgs false
namespace Go.Proofs.YtbfpdnnphdagjaaGreat
open Go.RowKit
attribute [local go_sem ↓] Go.wp_at_zero Go.wp_at_succ
private theorem dK {P:Program} {ops:Array Oper} {Q:Exit->Act->World->Prop} {md:Region.Mode} {S:World->Prop} {L i:Nat} {oi:Oper} {v:Value} {fuel:Nat} {listed l':Array Bool} {a a':Act} {w:World} (hi:ops[i]? = some oi) (hy:YieldsIf P ops S oi v a) (hS:S w)
  (h:bO P md ops Q S L fuel l' a' w) (hl:listed.setIfInBounds i true=l':=by(try simp only[qa,qb,qc]);rfl) (ha:a.put oi.dst v=a':=by(try simp only[Act.put,qa,qb,qc]);rfl) (hL:cW md ops L i=true:=by kernel_rfl) (hs:Region.noSelect ops=true:=by kernel_rfl) (hf:Region.free md ops listed i=true:=by kernel_rfl) (hr:(Region.ready md ops listed).contains i=true:=by kernel_rfl)
  (hQ:∀c a w,Q (.panic c) (a.put oi.dst v) w->Q (.panic c) a w:=by exact fun _ _ _ h=>h):bO P md ops Q S L (fuel+1) listed a w:=by subst hl;subst ha;exact fW hi hL hs hf hr hQ hy hS h
def ax.rz (c:ax):ax:={ c with ro:=0,ds:=0 }
theorem Ax (c:ax):(c.arr.setIfInBounds 38 (.int .i64 0)).setIfInBounds 37 (.int .i64 0)=c.rz.arr:=by
 rw[fl c { c with ro:=0 } 38 (by decide) (.int .i64 0) rfl (fun j h9 hj=>by
   have h37:j < 37\/j=37:=by omega
   unfold ax.cell;rcases h37 with h37 | rfl
   ·by_cases e0:j=36
    ·subst e0;rfl
    ·by_cases e1:j=35
     ·subst e1;rfl
     ·by_cases e2:j=34
      ·subst e2;rfl
      ·have e3:j < 34:=by omega
       simp[e3]
   ·rfl),
  fl { c with ro:=0 } c.rz 37 (by decide) (.int .i64 0) rfl (fun j h9 hj=>by unfold ax.cell ax.rz;simp[hj])]
theorem yf (r:Rd):(Tryz.prog.info? 53).map (·.size)=some r.arr.size:=by kernel_rfl
theorem vO (r:Rd):(Tryz.prog.info? 53).map (·.size)=some r.arr.toList.length:=by kernel_rfl
theorem Az (r:Rd):r.arr.all (·.oneCell')=true:=by kernel_rfl
def tK (L:cY) (lb k8 k9:Nat) (r:Rd):Nat->Ag:=bW (bW (cY.ag L lb) 7 (bX k8 53 r.arr)) 8 (bX k9 54 #[.int .i64 r.up,.int .i64 r.down])
theorem vm (cf:ax) (hc:∀j,j < 16->0<=cf.code j/\cf.code j < 256) (hv:cf.lnk.Valid) (RA:Option Addr) (rm rc:Nat) (RS0:Nat->Rd) (hrm:rm<=6) (w:World) (hR:ib w RA rm RS0):Calls Tryz.prog 4 #[.agg cf.arr,.slice RA rm rc] w fun e w'=>e=.returned (.bool true)/\Below w.heap.size w w':=by
 obtain⟨i0,hi0,hz0,hz1,hz2⟩:=info_parts Tryz.infoSl;obtain⟨ck,hck⟩:∃c,c=cf.lnk.wkey (aY 1001):=⟨_,rfl⟩
 have hB:=uZ cf hv;rw[<-hck]at hB;have hok:ck.Ok:=by rw[hck];exact⟨fun j _=>f9 1001 j,hc⟩
 have hvv:ck.Valid:=by rw[hck];exact hv
 have hok2:ck.opp.Ok:=by rw[hck];exact⟨fun j _=>f9 1001 j,hc⟩
 have hdd:ck.d=0\/ck.d=1:=hvv.2.2.1;have hvv2:ck.opp.Valid:=by
  have h:=hvv;unfold ax.Valid ax.opp at *;refine⟨h.1,h.2.1,?_,h.2.2.2⟩;show 1-ck.d=0\/1-ck.d=1;omega
 have hpz:lQ sf (fun _ _=>0):=⟨fun k=>by unfold sf;omega,fun k j=>by omega⟩
 have hst:∀(L:cY) (X X':Obj),L.x0=⟨ck,0,0,fun _=>false,fun _=>false,fun _=>false,0,gm ck,eZ ck X,[]⟩->L.x1=⟨ck.opp,0,0,fun _=>false,fun _=>false,fun _=>false,0,gm ck.opp,eZ ck.opp X',[]⟩->L.keys=1001->L.v0=[]->L.v1=[]->dD L (fun _ _=>0) (fun _ _=>0) (1001+4*0) (200*0) (200*0) (12*0) (12*0):=fun L X X' h0 h1 h2 h3 h4=>by
  have d0:=sE (pn:=sf) (z:=fun _ _=>0) (K:=1001) (cf:=ck) hok hvv (by rw[hck];rfl) (by rw[hck];rfl) (by rw[hck];rfl) (by rw[hck];rfl) (by rw[hck];rfl) X;have d1:=sE (pn:=sf) (z:=fun _ _=>0) (K:=1001) (cf:=ck.opp) hok2 hvv2 (by rw[hck];rfl) (by rw[hck];rfl) (by rw[hck];rfl) (by rw[hck];rfl) (by rw[hck];rfl) X';rw[<-h0]at d0;rw[<-h1]at d1;refine⟨hpz,hpz,d0,d1,⟨by rw[h3,h0];rfl,fun i e he=>by rw[h3]at he;cases he⟩,⟨by rw[h4,h1];rfl,fun i e he=>by rw[h4]at he;cases he⟩,fun j hj=>by rw[h0]at hj;exact absurd hj (Nat.not_lt_zero j),fun j hj=>by rw[h1]at hj;exact absurd hj (Nat.not_lt_zero j),by rw[h0];exact Nat.le_refl _,by rw[h1];exact Nat.le_refl _,h2,by rw[h0,h1];show ¬ck.d=1-ck.d;omega,by rw[h0,h1];rfl⟩
 have HST:=zh hst;have HBN:=zh hB;have HSA:Hid ((Tryz.prog.info? 25).map (·.size)=some cf.arr.toList.length):=zh (by rw[Array.length_toList,ax.arr_size];exact aS);have HUC:=zh Tryz.underlying25;have HRD:=zh hR;obtain⟨CA,hCA⟩:=af cf.arr
 rw[<-hCA]at HBN HSA ⊢;have hm0:¬6 < (rm:Int):=by omega
 have HRM:=zh hrm;clear hCA hv hB hok hvv hok2 hvv2 hdd hpz hst hck hc hR hrm;go_enter Tryz.func4,Tryz.ntmps4;go_upto_region 1 with (fail)
 obtain⟨kb,hkb⟩:=af w.heap.size
 refine ah (fun V=>ae V kb 25 CA/\Below w.heap.size w V) ⟨by rw[hkb];exact ae.new _ _ _,(Below.refl _ w).alloc ay _⟩ ?_;rintro V ⟨b0,bx⟩;have BX:=zh bx;have HRV:=zh (HRD.out.below bx);clear bx;rw[<-hkb];have HB0:=zh b0;have R0:=zh (show V.rangeAt kb 0 CA.toList from fun j y hy=>by rw[b0.cell,Nat.zero_add,<-hy,Array.getElem?_toList]);clear b0 hkb;go_upto_region 7 with (first
  | (refine wpList_load_mid rfl 25 _ rfl kb 0 rfl CA.toList _ R0.out HUC.out rfl HSA.out ?_)
  | (go_at_call 6;refine(HBN.out _).mono ?_;rintro e w1 ⟨lb,L0,X,X',rfl,hL,hx0,hx1,hks,hv0,hv1⟩;have HL:=zh hL;have HL0:=zh (HST.out L0 X X' hx0 hx1 hks hv0 hv1);clear hL hx0 hx1 hks hv0 hv1))
 clear hm0;have hm6:(rm:Int)<=6:=by have:=HRM.out;omega
 have hm00:0<=(rm:Int):=by omega
 go_upto_region 9 with (fail)
 go_loopw [6,7] (fun v6 v7 wr=>∃(n i:Nat) (z0 z1:Nat->Nat->Int) (L:cY),v6=.int .i64 n/\v7=.int .i64 i/\i<=rm+1/\n<=24*i/\Lk V wr lb L/\dD L z0 z1 (1001+4*i) (200*i) (200*i) (12*i) (12*i)) (fun _ v7 _=>8-(intOf v7).toNat)
 case atStart=>exact⟨0,0,fun _ _=>0,fun _ _=>0,L0,rfl,rfl,Nat.zero_le _,Nat.zero_le _,HL.out,HL0.out⟩
 case round=>
  obtain⟨n,i,z0,z1,L,rfl,rfl,him,hn,hl,hi⟩:=hrel;have HLK:=zh hl;have HLI:=zh hi;have hi7:i<=7:=by have:=HRM.out;omega
  have HIB:=zh (And.intro him (And.intro hn hi7));clear hl hi hn;by_cases hle:(i:Int)<=(rm:Int)
  ·have hi6:i<=6:=by have:=HRM.out;omega
   have HI6:=zh hi6;go_upto_region 12 with (fail)
   obtain⟨k8,hk8⟩:∃k,k=wr.heap.size:=⟨_,rfl⟩
   have hV1:=an.newBlk HLK.out 53 Rd.zero.arr;rw[<-hk8]at hV1 ⊢;refine ah (fun V1=>an V V1 8 (bW (cY.ag L lb) 7 (bX k8 53 Rd.zero.arr))) hV1 ?_;intro V1 hF1;have HF1:=zh hF1;clear hF1 hV1 hk8;go_upto_if 39 with (fail)
   go_cut []from 29 to 123 (fun wx=>∃rd:Rd,n6 V rd/\an V wx 8 (bW (cY.ag L lb) 7 (bX k8 53 rd.arr)))
   case first=>
    by_cases hlt:(i:Int) < (rm:Int)
    ·obtain⟨sb,so,hRA,hsb,hsc⟩:=HRV.out.at_ (by omega);obtain⟨rd,hrd⟩:∃r,r=RS0 i:=⟨_,rfl⟩
     have HRK:=zh (show n6 V rd by rw[hrd];exact HRV.out.ok i (by omega));have HRR:=zh (show V1.rangeAt sb (so+i*5) rd.arr.toList from fun j y hy=>by
      have hj:j < 5:=(List.getElem?_eq_some_iff.1 hy).1;rw[HF1.out.low.cell (p:=⟨sb,so+i*5+j,none⟩) hsb,hsc i (by omega) j hj,<-hrd,<-hy,Array.getElem?_toList,rd.arr_at hj])
     have HB8:=zh (an.blk (i:=7) HF1.out (by decide) rfl);have HUR:=zh Tryz.underlying53;have HSR:=zh (vO rd);subst hRA;obtain⟨RV,hRV⟩:∃q,q=rd.arr:=⟨_,rfl⟩
     have HRV2:=zh hRV;have HSR2:=zh (yf rd);have HSR3:=zh (Az rd);have HSR4:Hid (Rd.zero.arr.size=rd.arr.size):=zh rfl;rw[<-hRV]at HRR HSR HSR2 HSR3 HSR4;clear hsc hsb hrd hRV;go_wp2_with (first
      | (refine wpList_load_mid rfl _ _ rfl sb (so+i*5) rfl RV.toList _ HRR.out HUR.out rfl HSR.out ?_)
      | (refine wpList_store_row rfl _ _ _ rfl k8 RV rfl rfl 53 Rd.zero.arr HB8.out HSR2.out HSR4.out HSR3.out ?_))
     have hFE:=an.setRowN (i:=7) HF1.out (by decide) rfl RV;go_meet
     case rel=>exact⟨rd,HRK.out,by rw[<-HRV2.out];exact hFE.congr (fun j hj=>by
      rcases (by omega:j=0\/j=1\/j=2\/j=3\/j=4\/j=5\/j=6\/j=7)with rfl | rfl | rfl | rfl | rfl | rfl | rfl | rfl<;>rfl)⟩
    ·go_wp2;go_meet
     case rel=>exact⟨Rd.zero,za V,HF1.out⟩
   case rest=>
    obtain⟨rd,hrd,hF2⟩:=hcut;have HRK:=zh hrd;have HF2:=zh hF2;have hb8:=an.blk (i:=7) hF2 (by decide) rfl;have c0:wc.cell? ⟨k8,0,none⟩=some (.int .i64 rd.up):=hb8.cell 0;have c1:wc.cell? ⟨k8,1,none⟩=some (.int .i64 rd.down):=hb8.cell 1;clear hrd hF2 hb8;go_upto_region 15 with (fail)
    obtain⟨k9,hk9⟩:∃k,k=wc.heap.size:=⟨_,rfl⟩
    have hV2:=an.newBlk HF2.out 54 #[.int .i64 rd.up,.int .i64 rd.down];rw[<-hk9]at hV2 ⊢;refine ah (fun V2=>an V V2 9 (tK L lb k8 k9 rd)) hV2 ?_;intro V2 hF3;have HF3:=zh hF3;clear hF3 hV2 hk9 c0 c1;go_upto_region 16 with (fail)
    go_loopw [6,10] (fun v6 v10 wq=>∃(k:Int) (n a0 a1 nb:Nat) (z0 z1:Nat->Nat->Int) (L:cY),v6=.int .i64 n/\v10=.int .i64 k/\KB i k a0 a1 nb/\n<=nb/\an V wq 9 (tK L lb k8 k9 rd)/\dD L z0 z1 (1001+4*i) (200*i) (200*i) a0 a1) (fun _ v10 _=>2-(intOf v10).toNat)
    case atStart=>exact⟨0,n,12*i,12*i,24*i,z0,z1,L,rfl,rfl,.inl ⟨rfl,rfl,rfl,rfl⟩,HIB.out.2.1,HF3.out,HLI.out⟩
    case round=>
     obtain⟨k,n2,a0,a1,nb,y0,y1,L1,rfl,rfl,hkb,hn2,hl1,hi1⟩:=hrel;have HLK1:=zh hl1;have HLI1:=zh hi1;have HN2:=zh hn2;have hbm:=an.blk (i:=8) hl1 (by decide) rfl;have m0:wr.cell? ⟨k9,0,none⟩=some (.int .i64 rd.up):=hbm.cell 0;have m1:wr.cell? ⟨k9,1,none⟩=some (.int .i64 rd.down):=hbm.cell 1;clear hl1 hi1 hn2 hbm;rcases hkb with ⟨rfl,rfl,rfl,rfl⟩ | ⟨rfl,rfl,rfl,rfl⟩ | ⟨rfl,rfl,rfl,rfl⟩
     ·clear m1;by_cases hneg:rd.up < 0
      ·go_wp2_with (go_at_call 5;refine(cZ _).mono ?_;rintro e w9 ⟨rfl,hb⟩;have HBE:=zh (BX.out.trans ((HLK1.out.low.trans (hb.mono HLK1.out.low.size)).mono BX.out.size));clear hb);go_ret
       exact⟨rfl,HBE.out⟩
      by_cases hbig:12 < rd.up
      ·go_wp2_with (go_at_call 5;refine(cZ _).mono ?_;rintro e w9 ⟨rfl,hb⟩;have HBE:=zh (BX.out.trans ((HLK1.out.low.trans (hb.mono HLK1.out.low.size)).mono BX.out.size));clear hb);go_ret
       exact⟨rfl,HBE.out⟩
      have HC12:=zh (show 0<=rd.up/\rd.up<=12 by omega);go_upto_region 21 with (fail)
      clear hneg hbig;go_loopw [6,11] (fun v6 v11 wq=>∃(mm n:Nat) (z0 z1:Nat->Nat->Int) (L:cY),v6=.int .i64 n/\v11=.int .i64 mm/\(mm:Int)<=rd.up/\n<=24*i+mm/\an V wq 9 (tK L lb k8 k9 rd)/\dD L z0 z1 (1001+4*i) (200*i) (200*i) (12*i+mm) (12*i)) (fun _ v11 _=>13-(intOf v11).toNat)
      case atStart=>exact⟨0,n2,y0,y1,L1,rfl,rfl,HC12.out.1,HN2.out,HLK1.out,HLI1.out⟩
      case round=>
       obtain⟨mm,n3,x0,x1,L2,rfl,rfl,hmc,hn3,hl2,hi2⟩:=hrel;have HLK2:=zh hl2;have HLI2:=zh hi2;have hmm12:mm<=12:=by have:=HC12.out.2;omega
       have HN3:=zh (And.intro hn3 hmm12);have hn200:n3<=200:=by have:=HI6.out;omega
       have m0:wr.cell? ⟨k9,0,none⟩=some (.int .i64 rd.up):=(an.blk (i:=8) hl2 (by decide) rfl).cell 0;clear hl2 hi2 hn3;by_cases hlt:(mm:Int) < rd.up
       ·obtain⟨N1,hN1⟩:∃q:Int,q=((n3+1:Nat):Int):=⟨_,rfl⟩
        have hadd:(n3:Int)+1=N1:=by rw[hN1];omega
        have hN1a:0<=N1/\N1<=201:=by omega
        have hN8:IntKind.u8.wrap N1=N1:=by show N1 % 256=N1;omega
        have hNq:N1.tdiv 256=0:=by rw[Int.tdiv_eq_ediv_of_nonneg hN1a.1];omega
        have HN1:=zh hN1;have HLT:=zh hlt;clear hN1;go_upto_region 24 with (fail)
        clear m0 hlt;go_upto_region 25 with (fail)
        clear hadd hN8 hNq hN1a;obtain⟨rb,hrb⟩:∃k,k=wr.heap.size:=⟨_,rfl⟩
        have hV3:=an.newRow HLK2.out #[.int .u8 N1,.int .u8 0,.int .u8 0] 5 3 (fun j=>if j=0 then n3+1 else if j=1 then 0 else 0) (fun j hj=>by
         rcases (by omega:j=0\/j=1\/j=2)with rfl | rfl | rfl
         ·rw[HN1.out];rfl
         ·rfl
         ·rfl)
        rw[<-hrb]at hV3 ⊢;refine ah (fun V3=>an V V3 10 (bW (tK L2 lb k8 k9 rd) 9 (zx (some ⟨rb,0,none⟩) 3 (fun j=>if j=0 then n3+1 else if j=1 then 0 else 0)))) hV3 ?_;intro V3 hF4;have HF4:=zh hF4;have cd:V3.cell? ⟨lb,0,none⟩=some (.pointer (some ⟨L2.t0,0,none⟩)):=(an.blk (i:=6) hF4 (by decide) rfl).cell 0;obtain⟨bz,hbz⟩:∃q:Nat->Nat,q=fun j=>if j=0 then n3+1 else if j=1 then 0 else 0:=⟨_,rfl⟩
        have hbz9:∀j,bz j < 256:=fun j=>by rw[hbz];dsimp only;split<;>(try split)<;>omega
        rw[<-hbz]at HF4;obtain⟨s',hs1,hs2⟩:=HLI2.out.submit0 (fun j=>((bz j:Nat):Int)) (fun j=>⟨by omega,by have:=hbz9 j;omega⟩);have hsub:=an.submitW (i:=0) (j:=9) HF4.out (by decide) (by decide) (by decide) rfl HLI2.out.d0.t.fine (by rw[HLI2.out.d0.t.C];exact HLI2.out.d0.cm) (by have h1:=HLI2.out.d0.t.qlen;have h2:=HLI2.out.n0;have h3:=HI6.out;omega) (some ⟨rb,0,none⟩) 3 3 bz rfl (fun j hj=>hbz9 j) (by decide);rw[hs1]at hsub;have HSB:=zh hsub;have HS2:=zh hs2;have HBZ:=zh hbz9;clear hF4 hV3 hrb hbz hbz9 hs1 hs2 hsub;go_upto_region 27 with (go_at_call 8;refine(HSB.out).mono ?_;rintro e u1 ⟨rfl,hF⟩;have HF5:=zh hF;clear hF)
        clear cd;obtain⟨nl,hnl⟩:∃q,q=L2.v0.length:=⟨_,rfl⟩
        obtain⟨oB,hoB⟩:∃q,q=L2.i0:=⟨_,rfl⟩
        obtain⟨oc,hoc⟩:∃q,q=L2.ci0:=⟨_,rfl⟩
        have hB6:=an.blk (i:=6) HF5.out (by decide) rfl;have HCO:=zh (show ∀W:World,W.heap[lb]? = u1.heap[lb]?->W.cell? ⟨lb,4,none⟩=some (.slice oB nl oc)from fun W hW=>by rw[hnl,hoB,hoc];exact(World.cell?_of_block (a:=⟨lb,4,none⟩) hW).trans (hB6.cell 4));have HFZ:=zh (show ∀W:World,W.heap[lb]? = u1.heap[lb]?->W.frozen? ⟨lb,4,none⟩=false from fun W hW=>(show ae W lb 39 _ from hW.trans hB6).frozen 4);have HBL:=zh hB6.lt;refine fF (L:=14) (S:=fun w'=>w'.heap[lb]? = u1.heap[lb]?) (by kernel_rfl) rfl (fun hHeld=>?_);obtain⟨u2,hu2⟩:∃u3,u3=u1.drew:=⟨_,rfl⟩
        have HF6:=zh (HF5.out.below (w':=u2) (by rw[hu2];exact(Below.refl _ u1).drew));have hs2l:lb < u2.heap.size:=by rw[hu2];exact HBL.out
        rw[<-hu2];rw[<-hu2]at hHeld;clear hu2 hB6;refine dK (i:=0) (oi:=⟨some 91,_,_,_,_,_⟩) (v:=.pointer (some ⟨lb,0,none⟩)) rfl (Or.inl ⟨by rfl,fun W hW=>(by rfl)⟩) (by assumption) ?_;refine dK (i:=1) (oi:=⟨some 92,_,_,_,_,_⟩) (v:=.int .i64 0) rfl (Or.inl ⟨by rfl,fun W hW=>(by rfl)⟩) (by assumption) ?_;refine dK (i:=2) (oi:=⟨some 93,_,_,_,_,_⟩) (v:=.pointer (some ⟨lb,0,none⟩)) rfl (Or.inl ⟨by rfl,fun W hW=>(by rfl)⟩) (by assumption) ?_;refine dK (i:=3) (oi:=⟨some 94,_,_,_,_,_⟩) (v:=.int .i64 0) rfl (Or.inl ⟨by rfl,fun W hW=>(by rfl)⟩) (by assumption) ?_;refine dK (i:=4) (oi:=⟨some 95,_,_,_,_,_⟩) (v:=.pointer (some ⟨lb,0,none⟩)) rfl (Or.inl ⟨by rfl,fun W hW=>(by go_simp)⟩) (by assumption) ?_;refine dK (i:=5) (oi:=⟨some 96,_,_,_,_,_⟩) (v:=.pointer (some ⟨lb,4,none⟩)) rfl (Or.inl ⟨by rfl,fun W hW=>(by go_simp)⟩) (by assumption) ?_;refine dK (i:=6) (oi:=⟨some 97,_,_,_,_,_⟩) (v:=.pointer (some ⟨lb,4,none⟩)) rfl (Or.inl ⟨by rfl,fun W hW=>(by go_simp)⟩) (by assumption) ?_;refine dK (i:=7) (oi:=⟨some 98,_,_,_,_,_⟩) (v:=.slice oB nl oc) rfl (Or.inl ⟨by rfl,fun W hW=>(by have:=HCO.out W hW;go_simp)⟩) (by assumption) ?_;refine dK (i:=8) (oi:=⟨some 99,_,_,_,_,_⟩) (v:=.slice (some ⟨rb,0,none⟩) 3 3) rfl (Or.inl ⟨by rfl,fun W hW=>(by rfl)⟩) (by assumption) ?_;refine bM [13,12] (i:=11) (oi:=⟨some 102,_,_,_,_,_⟩) (v:=.pointer (some ⟨lb,0,none⟩)) rfl (by kernel_rfl) (by kernel_rfl) (by kernel_rfl) (by kernel_rfl) (by kernel_rfl) (fun _ _ _ h=>h) (Or.inl ⟨by rfl,fun W hW=>(by go_simp)⟩) (by assumption) ?_
        try simp only[Act.put,qa,qb,qc]
        refine bM [13] (i:=12) (oi:=⟨some 103,_,_,_,_,_⟩) (v:=.pointer (some ⟨lb,4,none⟩)) rfl (by kernel_rfl) (by kernel_rfl) (by kernel_rfl) (by kernel_rfl) (by kernel_rfl) (fun _ _ _ h=>h) (Or.inl ⟨by rfl,fun W hW=>(by go_simp)⟩) (by assumption) ?_
        try simp only[Act.put,qa,qb,qc]
        refine ci (i:=9) (o:=⟨some 100,_,_,_,_,_⟩) (by kernel_rfl) rfl (fun K hK=>?_);rw[if_pos (by rfl)];refine jI _ rfl _ (.slice (some ⟨rb,0,none⟩) 3 3) (some ⟨rb,0,none⟩) 3 3 rfl rfl ?_;have hF7:=HF6.out.below ((Below.refl _ u2).alloc ay (.cells #[.slice (some ⟨rb,0,none⟩) 3 3] 41));have hsrc:=nZ u2 (.slice (some ⟨rb,0,none⟩) 3 3) rfl;obtain⟨nb2,hnb2⟩:∃q,q=u2.heap.size:=⟨_,rfl⟩
        have hH3:(u2.alloc (.cells #[.slice (some ⟨rb,0,none⟩) 3 3] 41)).heap[lb]? = u1.heap[lb]?:=((Below.refl _ u2).alloc ay _).block lb hs2l |>.trans hHeld
        have hs3l:lb < (u2.alloc (.cells #[.slice (some ⟨rb,0,none⟩) 3 3] 41)).heap.size:=by simp;omega
        obtain⟨u3,hu3⟩:∃q,q=u2.alloc (.cells #[.slice (some ⟨rb,0,none⟩) 3 3] 41):=⟨_,rfl⟩
        rw[<-hu3]at hF7 hsrc hH3 hs3l ⊢;rw[<-hnb2]at hsrc ⊢;have HF7:=zh hF7;have HSRC:=zh hsrc;refine hK.out _ _ hH3 (fun hHeld2=>?_);clear hK K hHeld hF7 hsrc hH3 hnb2 hu3 hs2l
        try simp only[Act.put,qa,qb,qc]
        obtain⟨xs,hs1,hs3⟩:=an.inPush (i:=4) (n:=9) HF7.out (by decide) rfl rfl (by decide) (fun j hj=>HBZ.out j) 3 ay;have hne:∀a,oB=some a->lb ≠ a.block:=fun a ha=>by
         rw[hoB]at ha;obtain⟨cur,hc⟩:=hs1.obj ha;have hbb:=an.blk (i:=6) HF7.out (by decide) rfl
         exact bN hbb hc (by decide)
        have hnb3:nl<=1000000:=by
         have h1:=HLI2.out.v0.len;have h2:=HLI2.out.n0;have h3:=HI6.out;rw[hnl];omega
        rw[<-hnl,<-hoB,<-hoc]at hs1;rw[<-hnl,<-hoB]at hs3;have HNN:=zh (And.intro hnl (And.intro hoB hoc));have HNE:=zh hne;have HS3:=zh hs3;clear hnl hoB hoc hne hs3;refine ci (i:=10) (o:=⟨some 101,_,_,_,_,_⟩) (by kernel_rfl) rfl (fun K hK=>?_);rw[if_pos (by rfl)];refine dN _ _ 36 36 rfl u3 41 i0 (.slice none 0 0) 1 24 Tryz.underlying36 hi0 hz0 hz1 hz2 rfl oB nl oc xs rfl hs1 (.slice (some ⟨nb2,0,none⟩) 1 1) rfl 1 [.slice (some ⟨rb,0,none⟩) 3 3] HSRC.out (by unfold maxLen;omega) (by omega) (fun o2 c2 u4 hs4 hk4 ha4=>?_);have HF8:=zh (HS3.out o2 c2 u4 hs4 hk4 ha4);have hH:u4.heap[lb]? = u1.heap[lb]?:=(hk4.block lb hs3l (fun⟨a,e,hk⟩=>HNE.out a e hk)).trans hHeld2;refine hK.out _ _ hH (fun hHeld=>?_);clear hK K hH hs4 hk4 ha4 hs1 hHeld2 hs3l
        try simp only[Act.put,qa,qb,qc]
        refine dK (i:=13) (oi:=⟨some 104,_,_,_,_,_⟩) (v:=.pointer (some ⟨lb,4,none⟩)) rfl (Or.inl ⟨by rfl,fun W hW=>(by go_simp)⟩) (by assumption) ?_;refine dR (o:=⟨none,_,_,_,_,_⟩) (by kernel_rfl) (by kernel_rfl) rfl (fun K hK=>?_);rw[if_pos (by rfl)];have hc0:=HCO.out u4 hHeld;have hf0:=HFZ.out u4 hHeld;go_simp;refine hK.out _ _ ?_;clear hK K hc0 hf0 hHeld
        try simp only[Act.put]
        have HF9:=zh (an.put (i:=6) HF8.out (by decide) rfl 4 (.slice o2 (nl+1) c2));obtain⟨u5,hu5⟩:=af (u4.setCell ⟨lb,4,none⟩ (.slice o2 (nl+1) c2))
        rw[<-hu5]at HF9 ⊢;clear hu5;go_wp2;go_roundw
        case rel=>
         have hi3:=HS2.out o2 c2;refine⟨mm+1,n3+1,ki x0 (L2.x0.N+L2.x0.q) (fun j=>((bz j:Nat):Int)),x1,_,by rw[HN1.out],by go_num,by have:=HLT.out;omega,by have:=HN3.out;omega,HF9.out.congr (fun j hj=>?_),hi3⟩;have hlen:(L2.v0++[(⟨0,3,fun j=>((bz j:Nat):Int)⟩:SV)]).length=nl+1:=by rw[List.length_append,HNN.out.1];rfl
         rcases (by omega:j=0\/j=1\/j=2\/j=3\/j=4\/j=5\/j=6\/j=7\/j=8)with rfl | rfl | rfl | rfl | rfl | rfl | rfl | rfl | rfl
         ·rfl
         ·rfl
         ·rfl
         ·rfl
         ·rfl
         ·rfl
         ·show bX lb 39 (cY.arr _)=bX lb 39 ((cY.arr _).setIfInBounds 4 (.slice o2 (nl+1) c2));unfold cY.arr;dsimp only;rw[hlen]
          rfl
         ·rfl
         ·rfl
        case measure=>simp[intOf];omega
       ·go_wp2;go_roundw
        case rel=>exact⟨1,n3,12*i+12,12*i,24*i+12,x0,x1,L2,rfl,rfl,.inr (.inl ⟨rfl,rfl,rfl,rfl⟩),by have:=HN3.out;omega,HLK2.out,HLI2.out.more (by have:=HN3.out.2;omega) ay⟩
        case measure=>simp[intOf]
     ·clear m0;by_cases hneg:rd.down < 0
      ·go_wp2_with (go_at_call 5;refine(cZ _).mono ?_;rintro e w9 ⟨rfl,hb⟩;have HBE:=zh (BX.out.trans ((HLK1.out.low.trans (hb.mono HLK1.out.low.size)).mono BX.out.size));clear hb);go_ret
       exact⟨rfl,HBE.out⟩
      by_cases hbig:12 < rd.down
      ·go_wp2_with (go_at_call 5;refine(cZ _).mono ?_;rintro e w9 ⟨rfl,hb⟩;have HBE:=zh (BX.out.trans ((HLK1.out.low.trans (hb.mono HLK1.out.low.size)).mono BX.out.size));clear hb);go_ret
       exact⟨rfl,HBE.out⟩
      have HC12:=zh (show 0<=rd.down/\rd.down<=12 by omega);go_upto_region 21 with (fail)
      clear hneg hbig;go_loopw [6,11] (fun v6 v11 wq=>∃(mm n:Nat) (z0 z1:Nat->Nat->Int) (L:cY),v6=.int .i64 n/\v11=.int .i64 mm/\(mm:Int)<=rd.down/\n<=24*i+12+mm/\an V wq 9 (tK L lb k8 k9 rd)/\dD L z0 z1 (1001+4*i) (200*i) (200*i) (12*i+12) (12*i+mm)) (fun _ v11 _=>13-(intOf v11).toNat)
      case atStart=>exact⟨0,n2,y0,y1,L1,rfl,rfl,HC12.out.1,HN2.out,HLK1.out,HLI1.out⟩
      case round=>
       obtain⟨mm,n3,x0,x1,L2,rfl,rfl,hmc,hn3,hl2,hi2⟩:=hrel;have HLK2:=zh hl2;have HLI2:=zh hi2;have hmm12:mm<=12:=by have:=HC12.out.2;omega
       have HN3:=zh (And.intro hn3 hmm12);have hn200:n3<=200:=by have:=HI6.out;omega
       have m1:wr.cell? ⟨k9,1,none⟩=some (.int .i64 rd.down):=(an.blk (i:=8) hl2 (by decide) rfl).cell 1;clear hl2 hi2 hn3;by_cases hlt:(mm:Int) < rd.down
       ·obtain⟨N1,hN1⟩:∃q:Int,q=((n3+1:Nat):Int):=⟨_,rfl⟩
        have hadd:(n3:Int)+1=N1:=by rw[hN1];omega
        have hN1a:0<=N1/\N1<=201:=by omega
        have hN8:IntKind.u8.wrap N1=N1:=by show N1 % 256=N1;omega
        have hNq:N1.tdiv 256=0:=by rw[Int.tdiv_eq_ediv_of_nonneg hN1a.1];omega
        have HN1:=zh hN1;have HLT:=zh hlt;clear hN1;go_upto_region 24 with (fail)
        clear m1 hlt;go_upto_region 25 with (fail)
        clear hadd hN8 hNq hN1a;obtain⟨rb,hrb⟩:∃k,k=wr.heap.size:=⟨_,rfl⟩
        have hV3:=an.newRow HLK2.out #[.int .u8 N1,.int .u8 0,.int .u8 1] 5 3 (fun j=>if j=0 then n3+1 else if j=1 then 0 else 1) (fun j hj=>by
         rcases (by omega:j=0\/j=1\/j=2)with rfl | rfl | rfl
         ·rw[HN1.out];rfl
         ·rfl
         ·rfl)
        rw[<-hrb]at hV3 ⊢;refine ah (fun V3=>an V V3 10 (bW (tK L2 lb k8 k9 rd) 9 (zx (some ⟨rb,0,none⟩) 3 (fun j=>if j=0 then n3+1 else if j=1 then 0 else 1)))) hV3 ?_;intro V3 hF4;have HF4:=zh hF4;have cd:V3.cell? ⟨lb,2,none⟩=some (.pointer (some ⟨L2.t1,0,none⟩)):=(an.blk (i:=6) hF4 (by decide) rfl).cell 2;obtain⟨bz,hbz⟩:∃q:Nat->Nat,q=fun j=>if j=0 then n3+1 else if j=1 then 0 else 1:=⟨_,rfl⟩
        have hbz9:∀j,bz j < 256:=fun j=>by rw[hbz];dsimp only;split<;>(try split)<;>omega
        rw[<-hbz]at HF4;obtain⟨s',hs1,hs2⟩:=HLI2.out.submit1 (fun j=>((bz j:Nat):Int)) (fun j=>⟨by omega,by have:=hbz9 j;omega⟩);have hsub:=an.submitW (i:=1) (j:=9) HF4.out (by decide) (by decide) (by decide) rfl HLI2.out.d1.t.fine (by rw[HLI2.out.d1.t.C];exact HLI2.out.d1.cm) (by have h1:=HLI2.out.d1.t.qlen;have h2:=HLI2.out.n1;have h3:=HI6.out;omega) (some ⟨rb,0,none⟩) 3 3 bz rfl (fun j hj=>hbz9 j) (by decide);rw[hs1]at hsub;have HSB:=zh hsub;have HS2:=zh hs2;have HBZ:=zh hbz9;clear hF4 hV3 hrb hbz hbz9 hs1 hs2 hsub;go_upto_region 27 with (go_at_call 8;refine(HSB.out).mono ?_;rintro e u1 ⟨rfl,hF⟩;have HF5:=zh hF;clear hF)
        clear cd;obtain⟨nl,hnl⟩:∃q,q=L2.v1.length:=⟨_,rfl⟩
        obtain⟨oB,hoB⟩:∃q,q=L2.i1:=⟨_,rfl⟩
        obtain⟨oc,hoc⟩:∃q,q=L2.ci1:=⟨_,rfl⟩
        have hB6:=an.blk (i:=6) HF5.out (by decide) rfl;have HCO:=zh (show ∀W:World,W.heap[lb]? = u1.heap[lb]?->W.cell? ⟨lb,5,none⟩=some (.slice oB nl oc)from fun W hW=>by rw[hnl,hoB,hoc];exact(World.cell?_of_block (a:=⟨lb,5,none⟩) hW).trans (hB6.cell 5));have HFZ:=zh (show ∀W:World,W.heap[lb]? = u1.heap[lb]?->W.frozen? ⟨lb,5,none⟩=false from fun W hW=>(show ae W lb 39 _ from hW.trans hB6).frozen 5);have HBL:=zh hB6.lt;refine fF (L:=14) (S:=fun w'=>w'.heap[lb]? = u1.heap[lb]?) (by kernel_rfl) rfl (fun hHeld=>?_);obtain⟨u2,hu2⟩:∃u3,u3=u1.drew:=⟨_,rfl⟩
        have HF6:=zh (HF5.out.below (w':=u2) (by rw[hu2];exact(Below.refl _ u1).drew));have hs2l:lb < u2.heap.size:=by rw[hu2];exact HBL.out
        rw[<-hu2];rw[<-hu2]at hHeld;clear hu2 hB6;refine dK (i:=0) (oi:=⟨some 91,_,_,_,_,_⟩) (v:=.pointer (some ⟨lb,0,none⟩)) rfl (Or.inl ⟨by rfl,fun W hW=>(by rfl)⟩) (by assumption) ?_;refine dK (i:=1) (oi:=⟨some 92,_,_,_,_,_⟩) (v:=.int .i64 1) rfl (Or.inl ⟨by rfl,fun W hW=>(by rfl)⟩) (by assumption) ?_;refine dK (i:=2) (oi:=⟨some 93,_,_,_,_,_⟩) (v:=.pointer (some ⟨lb,0,none⟩)) rfl (Or.inl ⟨by rfl,fun W hW=>(by rfl)⟩) (by assumption) ?_;refine dK (i:=3) (oi:=⟨some 94,_,_,_,_,_⟩) (v:=.int .i64 1) rfl (Or.inl ⟨by rfl,fun W hW=>(by rfl)⟩) (by assumption) ?_;refine dK (i:=4) (oi:=⟨some 95,_,_,_,_,_⟩) (v:=.pointer (some ⟨lb,0,none⟩)) rfl (Or.inl ⟨by rfl,fun W hW=>(by go_simp)⟩) (by assumption) ?_;refine dK (i:=5) (oi:=⟨some 96,_,_,_,_,_⟩) (v:=.pointer (some ⟨lb,4,none⟩)) rfl (Or.inl ⟨by rfl,fun W hW=>(by go_simp)⟩) (by assumption) ?_;refine dK (i:=6) (oi:=⟨some 97,_,_,_,_,_⟩) (v:=.pointer (some ⟨lb,5,none⟩)) rfl (Or.inl ⟨by rfl,fun W hW=>(by go_simp)⟩) (by assumption) ?_;refine dK (i:=7) (oi:=⟨some 98,_,_,_,_,_⟩) (v:=.slice oB nl oc) rfl (Or.inl ⟨by rfl,fun W hW=>(by have:=HCO.out W hW;go_simp)⟩) (by assumption) ?_;refine dK (i:=8) (oi:=⟨some 99,_,_,_,_,_⟩) (v:=.slice (some ⟨rb,0,none⟩) 3 3) rfl (Or.inl ⟨by rfl,fun W hW=>(by rfl)⟩) (by assumption) ?_;refine bM [13,12] (i:=11) (oi:=⟨some 102,_,_,_,_,_⟩) (v:=.pointer (some ⟨lb,0,none⟩)) rfl (by kernel_rfl) (by kernel_rfl) (by kernel_rfl) (by kernel_rfl) (by kernel_rfl) (fun _ _ _ h=>h) (Or.inl ⟨by rfl,fun W hW=>(by go_simp)⟩) (by assumption) ?_
        try simp only[Act.put,qa,qb,qc]
        refine bM [13] (i:=12) (oi:=⟨some 103,_,_,_,_,_⟩) (v:=.pointer (some ⟨lb,4,none⟩)) rfl (by kernel_rfl) (by kernel_rfl) (by kernel_rfl) (by kernel_rfl) (by kernel_rfl) (fun _ _ _ h=>h) (Or.inl ⟨by rfl,fun W hW=>(by go_simp)⟩) (by assumption) ?_
        try simp only[Act.put,qa,qb,qc]
        refine ci (i:=9) (o:=⟨some 100,_,_,_,_,_⟩) (by kernel_rfl) rfl (fun K hK=>?_);rw[if_pos (by rfl)];refine jI _ rfl _ (.slice (some ⟨rb,0,none⟩) 3 3) (some ⟨rb,0,none⟩) 3 3 rfl rfl ?_;have hF7:=HF6.out.below ((Below.refl _ u2).alloc ay (.cells #[.slice (some ⟨rb,0,none⟩) 3 3] 41));have hsrc:=nZ u2 (.slice (some ⟨rb,0,none⟩) 3 3) rfl;obtain⟨nb2,hnb2⟩:∃q,q=u2.heap.size:=⟨_,rfl⟩
        have hH3:(u2.alloc (.cells #[.slice (some ⟨rb,0,none⟩) 3 3] 41)).heap[lb]? = u1.heap[lb]?:=((Below.refl _ u2).alloc ay _).block lb hs2l |>.trans hHeld
        have hs3l:lb < (u2.alloc (.cells #[.slice (some ⟨rb,0,none⟩) 3 3] 41)).heap.size:=by simp;omega
        obtain⟨u3,hu3⟩:∃q,q=u2.alloc (.cells #[.slice (some ⟨rb,0,none⟩) 3 3] 41):=⟨_,rfl⟩
        rw[<-hu3]at hF7 hsrc hH3 hs3l ⊢;rw[<-hnb2]at hsrc ⊢;have HF7:=zh hF7;have HSRC:=zh hsrc;refine hK.out _ _ hH3 (fun hHeld2=>?_);clear hK K hHeld hF7 hsrc hH3 hnb2 hu3 hs2l
        try simp only[Act.put,qa,qb,qc]
        obtain⟨xs,hs1,hs3⟩:=an.inPush (i:=5) (n:=9) HF7.out (by decide) rfl rfl (by decide) (fun j hj=>HBZ.out j) 3 ay;have hne:∀a,oB=some a->lb ≠ a.block:=fun a ha=>by
         rw[hoB]at ha;obtain⟨cur,hc⟩:=hs1.obj ha;have hbb:=an.blk (i:=6) HF7.out (by decide) rfl
         exact bN hbb hc (by decide)
        have hnb3:nl<=1000000:=by
         have h1:=HLI2.out.v1.len;have h2:=HLI2.out.n1;have h3:=HI6.out;rw[hnl];omega
        rw[<-hnl,<-hoB,<-hoc]at hs1;rw[<-hnl,<-hoB]at hs3;have HNN:=zh (And.intro hnl (And.intro hoB hoc));have HNE:=zh hne;have HS3:=zh hs3;clear hnl hoB hoc hne hs3;refine ci (i:=10) (o:=⟨some 101,_,_,_,_,_⟩) (by kernel_rfl) rfl (fun K hK=>?_);rw[if_pos (by rfl)];refine dN _ _ 36 36 rfl u3 41 i0 (.slice none 0 0) 1 24 Tryz.underlying36 hi0 hz0 hz1 hz2 rfl oB nl oc xs rfl hs1 (.slice (some ⟨nb2,0,none⟩) 1 1) rfl 1 [.slice (some ⟨rb,0,none⟩) 3 3] HSRC.out (by unfold maxLen;omega) (by omega) (fun o2 c2 u4 hs4 hk4 ha4=>?_);have HF8:=zh (HS3.out o2 c2 u4 hs4 hk4 ha4);have hH:u4.heap[lb]? = u1.heap[lb]?:=(hk4.block lb hs3l (fun⟨a,e,hk⟩=>HNE.out a e hk)).trans hHeld2;refine hK.out _ _ hH (fun hHeld=>?_);clear hK K hH hs4 hk4 ha4 hs1 hHeld2 hs3l
        try simp only[Act.put,qa,qb,qc]
        refine dK (i:=13) (oi:=⟨some 104,_,_,_,_,_⟩) (v:=.pointer (some ⟨lb,5,none⟩)) rfl (Or.inl ⟨by rfl,fun W hW=>(by go_simp)⟩) (by assumption) ?_;refine dR (o:=⟨none,_,_,_,_,_⟩) (by kernel_rfl) (by kernel_rfl) rfl (fun K hK=>?_);rw[if_pos (by rfl)];have hc0:=HCO.out u4 hHeld;have hf0:=HFZ.out u4 hHeld;go_simp;refine hK.out _ _ ?_;clear hK K hc0 hf0 hHeld
        try simp only[Act.put]
        have HF9:=zh (an.put (i:=6) HF8.out (by decide) rfl 5 (.slice o2 (nl+1) c2));obtain⟨u5,hu5⟩:=af (u4.setCell ⟨lb,5,none⟩ (.slice o2 (nl+1) c2))
        rw[<-hu5]at HF9 ⊢;clear hu5;go_wp2;go_roundw
        case rel=>
         have hi3:=HS2.out o2 c2;refine⟨mm+1,n3+1,x0,ki x1 (L2.x1.N+L2.x1.q) (fun j=>((bz j:Nat):Int)),_,by rw[HN1.out],by go_num,by have:=HLT.out;omega,by have:=HN3.out;omega,HF9.out.congr (fun j hj=>?_),hi3⟩;have hlen:(L2.v1++[(⟨0,3,fun j=>((bz j:Nat):Int)⟩:SV)]).length=nl+1:=by rw[List.length_append,HNN.out.1];rfl
         rcases (by omega:j=0\/j=1\/j=2\/j=3\/j=4\/j=5\/j=6\/j=7\/j=8)with rfl | rfl | rfl | rfl | rfl | rfl | rfl | rfl | rfl
         ·rfl
         ·rfl
         ·rfl
         ·rfl
         ·rfl
         ·rfl
         ·show bX lb 39 (cY.arr _)=bX lb 39 ((cY.arr _).setIfInBounds 5 (.slice o2 (nl+1) c2));unfold cY.arr;dsimp only;rw[hlen]
          rfl
         ·rfl
         ·rfl
        case measure=>simp[intOf];omega
       ·go_wp2;go_roundw
        case rel=>exact⟨2,n3,12*i+12,12*i+12,24*i+24,x0,x1,L2,rfl,rfl,.inr (.inr ⟨rfl,rfl,rfl,rfl⟩),by have:=HN3.out;omega,HLK2.out,HLI2.out.more ay (by have:=HN3.out.2;omega)⟩
        case measure=>simp[intOf]
     ·clear m0 m1;have h8:=an.to8 HLK1.out (by decide) (bW (cY.ag L1 lb) 7 (bX k8 53 rd.arr));have hs0:=pt (X:=bX k8 53 rd.arr) h8 HLI1.out.p0 HLI1.out.d0 (by have h1:=HLI1.out.n0;have h2:=HI6.out;omega) (by have h2:=HI6.out;omega) rd.A rd.n rd.c rd.z HRK.out.mx (oC HRK.out.row) HRK.out.byte;have HS0:=zh hs0;have hb8:=an.blk (i:=7) h8 (by decide) rfl;have c2:wr.cell? ⟨k8,2,none⟩=some (.slice rd.A rd.n rd.c):=hb8.cell 2;clear h8 hs0 hb8;go_wp2_with (first
       | (go_at_call 15;refine(HRN.out).mono ?_;rintro e w5 ⟨L4,rfl,hl4,hd40,hd41,hr40,hr41,hk4,hv40,hv41⟩;have HL4:=zh (And.intro hl4 (dD.renewed HLI1.out HS1.out.2.2 HS2.out.2.2 hr40 hr41 hd40 hd41 hk4 hv40 hv41));clear hl4 hd40 hd41 hr40 hr41 hk4 hv40 hv41)
       | (go_at_call 9;have hq:=HS1.out;clear hq;refine(HS1b.out).mono ?_;rintro e w4 ⟨x4,o4,c4,rfl,hl4,hd4,hs4⟩;have HS2:=zh (And.intro hl4 (And.intro hd4 hs4));have c4':w4.cell? ⟨k8,4,none⟩=some (.bool rd.mv):=(an.blk (i:=7) hl4 (by decide) rfl).cell 4;have HRN:=zh (we (L:={ L1 with x0:=x3,o0:=o3,co0:=c3,x1:=x4,o1:=o4,co1:=c4 }) (an.to7 hl4 (by decide) _) (HS1.out.2.1) hd4 (by show ¬x3.cf.d=x4.cf.d;rw[HS1.out.2.2.cf,hs4.cf];exact HLI1.out.dd) (by show x3.cf.b=x4.cf.b;rw[HS1.out.2.2.cf,hs4.cf];exact HLI1.out.bb) HLI1.out.ks (by have h2:=HI6.out;omega) (by have h1:=HLI1.out.n0;have h2:=HLI1.out.n1;have h3:=HI6.out;have h4:=HS1.out.2.2.N;have h5:=HS1.out.2.2.q;have h6:=hs4.N;have h7:=hs4.q;constructor;(show x3.N+x3.q<=200;omega);(show x4.N+x4.q<=200;omega)) rd.mv);clear hl4 hd4 hs4)
       | (go_at_call 9;(with_reducible refine(HS0.out).mono ?_);rintro e w3 ⟨x3,o3,c3,rfl,hl3,hd3,hs3⟩;have HS1:=zh (And.intro hl3 (And.intro hd3 hs3));have c3':w3.cell? ⟨k8,3,none⟩=some (.slice rd.B rd.m rd.d):=(an.blk (i:=7) hl3 (by decide) rfl).cell 3;have HS1b:=zh (pf (X:=bX k8 53 rd.arr) hl3 HLI1.out.p1 HLI1.out.d1 (by have h1:=HLI1.out.n1;have h2:=HI6.out;show L1.x1.N+L1.x1.q<=99;omega) (by have h2:=HI6.out;omega) rd.B rd.m rd.d rd.y HRK.out.mx2 (oC HRK.out.row2) HRK.out.byte2);clear hl3 hd3 hs3))
      go_roundw
      case rel=>exact⟨n2,i+1,y0,y1,L4,rfl,by go_num,by omega,by have:=HN2.out;omega,HL4.out.1,HL4.out.2⟩
      case measure=>simp[intOf];omega
  ·have hL8:zA V wr lb L (uG none 0 []):=an.new_ HLK.out (Below.refl _ wr) (og wr) (fun k hk=>hk.elim);have hrk:xO V (uG none 0 []) none 0 (fun _=>0):=fun _ _ _ _ _ _ h0=>absurd rfl h0;have HRK0:=zh hrk;have HI7:=zh hi7;clear hrk;obtain⟨nv0,hnv0⟩:∃q,q=L.v0.length:=⟨_,rfl⟩
   obtain⟨nv1,hnv1⟩:∃q,q=L.v1.length:=⟨_,rfl⟩
   have HV0:=zh hnv0;have HV1:=zh hnv1;clear hnv0 hnv1;go_upto_region 30 with (fail)
   refine wp_region_held_drew (S:=fun W=>W.cell? ⟨lb,4,none⟩=some (.slice L.i0 nv0 L.ci0)/\W.cell? ⟨lb,5,none⟩=some (.slice L.i1 nv1 L.ci1)) (by kernel_rfl) ⟨by rw[HV0.out];exact(an.blk (i:=6) hL8 (by decide) rfl).cell 4,by rw[HV1.out];exact(an.blk (i:=6) hL8 (by decide) rfl).cell 5⟩ (fun hHeld=>?_);obtain⟨u0,hu0⟩:=af wr.drew
   have HU0:Hid (zA V u0 lb L (uG none 0 [])):=zh (an.below hL8 (w':=u0) (by rw[hu0];exact(Below.refl _ wr).drew));rw[<-hu0];rw[<-hu0]at hHeld;clear hu0 hL8;refine ba (i:=0) (x:=some 124) (v:=.pointer (some ⟨lb,0,none⟩)) rfl ?_;refine aL (i:=1) (x:=some 125) rfl fun K hK=>?_;go_simp;refine(pt (X:=uG none 0 []) HU0.out HLI.out.p0 HLI.out.d0 (by have h1:=HLI.out.n0;have h2:=HI7.out;show L.x0.N+L.x0.q<=99;omega) (by have h2:=HI7.out;omega) none 0 0 (fun _=>0) (Nat.zero_le _) HRK0.out (fun j hj=>absurd hj (Nat.not_lt_zero j))).mono ?_;rintro e w1 ⟨x3,o3,c3,rfl,hl,hd,hs⟩;dsimp only;have HW1:=zh hl;have HD0:=zh (And.intro hd hs);have HM0:Hid (x3.vs.length=nv0/\nv0<=1000000):=zh (by
    have h0:=HV0.out;have h1:=HLI.out.c0.all hs hd (by have h1:=HLI.out.n0;have h2:=HI7.out;omega);have h2:=HLI.out.v0.len;have h3:=HLI.out.n0;have h4:=HI7.out;omega)
   clear hl hd hs;refine hK.out _ _ (⟨by rw[HV0.out];exact(an.blk (i:=6) HW1.out (by decide) rfl).cell 4,by rw[HV1.out];exact(an.blk (i:=6) HW1.out (by decide) rfl).cell 5⟩) (fun hHeld=>?_);clear hK K
   try simp only[Act.put,qa,qb,qc]
   refine az (i:=2) (x:=some 126) (v:=.bool true) rfl ?_;refine ba (i:=3) (x:=some 127) (v:=.pointer (some ⟨lb,0,none⟩)) rfl ?_;refine aL (i:=4) (x:=some 128) rfl fun K hK=>?_;go_simp;refine(pf (X:=uG none 0 []) HW1.out HLI.out.p1 HLI.out.d1 (by have h1:=HLI.out.n1;have h2:=HI7.out;show L.x1.N+L.x1.q<=99;omega) (by have h2:=HI7.out;omega) none 0 0 (fun _=>0) (Nat.zero_le _) HRK0.out (fun j hj=>absurd hj (Nat.not_lt_zero j))).mono ?_;rintro e w2 ⟨x4,o4,c4,rfl,hl,hd,hs⟩;dsimp only;have HW2:=zh hl;have HD1:=zh (And.intro hd hs);have HM1:Hid (x4.vs.length=nv1/\nv1<=1000000):=zh (by
    have h0:=HV1.out;have h1:=HLI.out.c1.all hs hd (by have h1:=HLI.out.n1;have h2:=HI7.out;omega);have h2:=HLI.out.v1.len;have h3:=HLI.out.n1;have h4:=HI7.out;omega)
   clear hl hd hs;refine hK.out _ _ (⟨by rw[HV0.out];exact(an.blk (i:=6) HW2.out (by decide) rfl).cell 4,by rw[HV1.out];exact(an.blk (i:=6) HW2.out (by decide) rfl).cell 5⟩) (fun hHeld=>?_);clear hK K
   try simp only[Act.put,qa,qb,qc]
   refine az (i:=5) (x:=some 129) (v:=.bool true) rfl ?_;refine ba (i:=6) (x:=some 130) (v:=.bool true) rfl ?_;refine ba (i:=7) (x:=some 131) (v:=.pointer (some ⟨lb,0,none⟩)) rfl ?_;refine az (i:=8) (x:=some 132) (v:=.pointer (some ⟨lb,0,none⟩)) rfl ?_;refine az (i:=9) (x:=some 133) (v:=.pointer (some ⟨lb,6,none⟩)) rfl ?_;refine az (i:=10) (x:=some 134) (v:=.pointer (some ⟨lb,6,none⟩)) rfl ?_;refine ba (i:=12) (x:=some 136) (v:=.pointer (some ⟨lb,0,none⟩)) rfl ?_;refine az (i:=13) (x:=some 137) (v:=.pointer (some ⟨lb,0,none⟩)) rfl ?_;refine az (i:=14) (x:=some 138) (v:=.pointer (some ⟨lb,4,none⟩)) rfl ?_;refine az (i:=15) (x:=some 139) (v:=.pointer (some ⟨lb,4,none⟩)) rfl ?_;refine bE (i:=16) (x:=some 140) (v:=.slice L.i0 nv0 L.ci0) rfl (.inl ⟨by rfl,fun W hW=>(by have:=hW.1;go_simp)⟩) ?_;refine aL (i:=11) (x:=some 135) rfl fun K hK=>?_;have cc:w2.cell? ⟨lb,6,none⟩=some (.slice o3 nv0 c3):=by rw[<-HM0.out.1];exact(an.blk (i:=6) HW2.out (by decide) rfl).cell 6
   go_simp;clear cc;refine hK.out _ _ (by assumption) (fun hHeld=>?_);clear hK K
   try simp only[Act.put,qa,qb,qc]
   refine aL (i:=17) (x:=some 141) rfl fun K hK=>?_;go_simp;refine(kI o3 L.i0 nv0 c3 L.ci0 w2 (by have:=HM0.out.2;unfold maxLen;omega) (by rw[<-HM0.out.1];exact an.sameL (i:=2) (j:=4) HW2.out (by decide) (by decide) rfl rfl (HM0.out.1.trans HV0.out) (HD0.out.1.same_in HLI.out.v0))).mono ?_;rintro e w4 ⟨rfl,hb⟩;dsimp only;have HW4:=zh (an.below HW2.out hb);clear hb;refine hK.out _ _ (⟨by rw[HV0.out];exact(an.blk (i:=6) HW4.out (by decide) rfl).cell 4,by rw[HV1.out];exact(an.blk (i:=6) HW4.out (by decide) rfl).cell 5⟩) (fun hHeld=>?_);clear hK K
   try simp only[Act.put,qa,qb,qc]
   refine az (i:=18) (x:=some 142) (v:=.bool true) rfl ?_;refine ba (i:=19) (x:=some 143) (v:=.bool true) rfl ?_;refine ba (i:=20) (x:=some 144) (v:=.pointer (some ⟨lb,0,none⟩)) rfl ?_;refine az (i:=21) (x:=some 145) (v:=.pointer (some ⟨lb,0,none⟩)) rfl ?_;refine az (i:=22) (x:=some 146) (v:=.pointer (some ⟨lb,6,none⟩)) rfl ?_;refine az (i:=23) (x:=some 147) (v:=.pointer (some ⟨lb,7,none⟩)) rfl ?_;refine ba (i:=25) (x:=some 149) (v:=.pointer (some ⟨lb,0,none⟩)) rfl ?_;refine az (i:=26) (x:=some 150) (v:=.pointer (some ⟨lb,0,none⟩)) rfl ?_;refine az (i:=27) (x:=some 151) (v:=.pointer (some ⟨lb,4,none⟩)) rfl ?_;refine az (i:=28) (x:=some 152) (v:=.pointer (some ⟨lb,5,none⟩)) rfl ?_;refine bE (i:=29) (x:=some 153) (v:=.slice L.i1 nv1 L.ci1) rfl (.inl ⟨by rfl,fun W hW=>(by have:=hW.2;go_simp)⟩) ?_;refine aL (i:=24) (x:=some 148) rfl fun K hK=>?_;have cc:w4.cell? ⟨lb,7,none⟩=some (.slice o4 nv1 c4):=by rw[<-HM1.out.1];exact(an.blk (i:=6) HW4.out (by decide) rfl).cell 7
   go_simp;clear cc;refine hK.out _ _ (by assumption) (fun hHeld=>?_);clear hK K
   try simp only[Act.put,qa,qb,qc]
   refine aL (i:=30) (x:=some 154) rfl fun K hK=>?_;go_simp;refine(kI o4 L.i1 nv1 c4 L.ci1 w4 (by have:=HM1.out.2;unfold maxLen;omega) (by rw[<-HM1.out.1];exact an.sameL (i:=3) (j:=5) HW4.out (by decide) (by decide) rfl rfl (HM1.out.1.trans HV1.out) (HD1.out.1.same_in HLI.out.v1))).mono ?_;rintro e w6 ⟨rfl,hb⟩;dsimp only;have HW6:=zh (an.below HW4.out hb);clear hb;refine hK.out _ _ (⟨by rw[HV0.out];exact(an.blk (i:=6) HW6.out (by decide) rfl).cell 4,by rw[HV1.out];exact(an.blk (i:=6) HW6.out (by decide) rfl).cell 5⟩) (fun hHeld=>?_);clear hK K
   try simp only[Act.put,qa,qb,qc]
   refine az (i:=31) (x:=some 155) (v:=.bool true) rfl ?_;refine ba (i:=32) (x:=some 156) (v:=.bool true) rfl ?_;refine aL (i:=33) (x:=some 157) rfl fun K hK=>?_;go_simp;refine(cZ _).mono ?_;rintro e w7 ⟨rfl,hb⟩;dsimp only;have HW7:=zh (an.below HW6.out hb);clear hb;refine hK.out _ _ (⟨by rw[HV0.out];exact(an.blk (i:=6) HW7.out (by decide) rfl).cell 4,by rw[HV1.out];exact(an.blk (i:=6) HW7.out (by decide) rfl).cell 5⟩) (fun hHeld=>?_);clear hK K
   try simp only[Act.put,qa,qb,qc]
   refine az (i:=34) (x:=some 158) (v:=.bool true) rfl ?_;refine ba (i:=35) (x:=some 4) (v:=.bool true) rfl ?_;refine wpAnyH_done (by kernel_rfl) ?_ _;clear hHeld;go_wp2;go_ret
   exact⟨rfl,BX.out.trans ((an.low HW7.out).mono BX.out.size)⟩
theorem wI (cf:ax) (RA:Option Addr) (rm rc:Nat) (hrm:6 < rm) (w:World):Calls Tryz.prog 4 #[.agg cf.arr,.slice RA rm rc] w fun e w'=>e=.returned (.bool true)/\Below w.heap.size w w':=by
 obtain⟨CA,hCA⟩:=af cf.arr
 rw[<-hCA];clear hCA;have h:6 < (rm:Int):=by omega
 go_enter Tryz.func4,Tryz.ntmps4;go_upto_region 1 with (fail)
 refine ah (fun V=>Below w.heap.size w V) ((Below.refl _ w).alloc ay _) ?_;intro V bx;have BX:=zh bx;clear bx;go_wp2_with (go_at_call 5;refine(cZ _).mono ?_;rintro e w1 ⟨rfl,hb⟩;have HBE:=zh (BX.out.trans (hb.mono BX.out.size));clear hb);go_ret
 exact⟨rfl,HBE.out⟩
theorem ym (cf:ax) (RA:Option Addr) (rm rc:Nat) (hrm:rm<=6) (hv:¬cf.lnk.Valid) (w:World):Calls Tryz.prog 4 #[.agg cf.arr,.slice RA rm rc] w fun e w'=>e=.returned (.bool true)/\Below w.heap.size w w':=by
 have HBN:=zh (fun V=>vM cf hv V);have HVL:=zh (fun V=>fX cf.rz V);have hv2:¬cf.rz.Valid:=hv;rw[decide_eq_false hv2]at HVL;have HLK:=zh (Ax cf);have HAZ:Hid (cf.arr.size=39):=zh cf.arr_size;have HSA:Hid ((Tryz.prog.info? 25).map (·.size)=some cf.arr.toList.length):=zh (by rw[Array.length_toList,ax.arr_size];exact aS);have HSB:Hid ((Tryz.prog.info? 25).map (·.size)=some cf.rz.arr.toList.length):=zh (by rw[Array.length_toList,ax.arr_size];exact aS);have HUC:=zh Tryz.underlying25;obtain⟨CA,hCA⟩:=af cf.arr
 obtain⟨CB,hCB⟩:=af cf.rz.arr
 rw[<-hCA]at HLK HAZ HBN HSA ⊢;rw[<-hCB]at HLK HVL HSB;have h0:¬6 < (rm:Int):=by omega
 clear hCA hCB hv hv2 hrm;go_enter Tryz.func4,Tryz.ntmps4;go_upto_region 1 with (fail)
 obtain⟨kb,hkb⟩:=af w.heap.size
 have HKB:=zh hkb;refine ah (fun V=>ae V kb 25 CA/\Below w.heap.size w V) ⟨by rw[hkb];exact ae.new _ _ _,(Below.refl _ w).alloc ay _⟩ ?_;rintro V ⟨b0,bx⟩;have BX:=zh bx;clear bx;rw[<-hkb];have HB0:=zh b0;have R0:=zh (show V.rangeAt kb 0 CA.toList from fun j y hy=>by rw[b0.cell,Nat.zero_add,<-hy,Array.getElem?_toList]);clear b0 hkb;go_upto_region 5 with (first
  | (refine wpList_load_mid rfl 25 _ rfl kb 0 rfl CA.toList _ R0.out HUC.out rfl HSA.out ?_)
  | (go_at_call 6;refine(HBN.out _).mono ?_;rintro e w1 ⟨rfl,hb⟩;have HB1:=zh (HB0.out.below hb HB0.out.lt);have BX1:=zh (BX.out.trans (hb.mono BX.out.size));clear hb))
 have HN:=zh (show ∀j,j < 39->∃v,w1.cell? ⟨kb,j,none⟩=some v from fun j hj=>by
  rw[HB1.out.cell]
  exact⟨_,Array.getElem?_eq_getElem (by rw[HAZ.out];exact hj)⟩)
 obtain⟨v7,c7⟩:=HN.out 37 (by decide);obtain⟨v8,c8⟩:=HN.out 38 (by decide);have f7:=HB1.out.frozen 37;have f8:=HB1.out.frozen 38;go_upto_region 6 with (fail)
 refine ah (fun V2=>ae V2 kb 25 CB/\Below w.heap.size w V2) ⟨by have:=(HB1.out.set_ 38 (.int .i64 0)).set_ 37 (.int .i64 0);rw[HLK.out]at this;exact this,(BX1.out.setCell (by show w.heap.size<=kb;have:=HKB.out;omega) _).setCell (by show w.heap.size<=kb;have:=HKB.out;omega) _⟩ ?_;rintro V2 ⟨b0,bx⟩;have BX2:=zh bx;clear bx;have R2:=zh (show V2.rangeAt kb 0 CB.toList from fun j y hy=>by rw[b0.cell,Nat.zero_add,<-hy,Array.getElem?_toList]);clear b0 c7 c8 f7 f8 HN;go_wp2_with (first
  | (refine wpList_load_mid rfl 25 _ rfl kb 0 rfl CB.toList _ R2.out HUC.out rfl HSB.out ?_)
  | (go_at_call 7;refine(HVL.out _).mono ?_;rintro e w3 ⟨rfl,hb⟩;have BX3:=zh (BX2.out.trans (hb.mono BX2.out.size));clear hb)
  | (go_at_call 5;refine(cZ _).mono ?_;rintro e w4 ⟨rfl,hb⟩;have BX4:=zh (BX3.out.trans (hb.mono BX3.out.size));clear hb))
 go_ret
 exact⟨rfl,BX4.out⟩
theorem tP (cf:ax) (hok:cf.Ok) (RA:Option Addr) (rm rc:Nat) (S:Nat->Rd) (w:World) (hR:ib w RA rm S):Calls Tryz.prog 4 #[.agg cf.arr,.slice RA rm rc] w fun e w'=>e=.returned (.bool true)/\Below w.heap.size w w':=by
 by_cases h:rm<=6
 ·by_cases hv:cf.lnk.Valid
  ·exact vm cf hok.2 hv RA rm rc S h w hR
  ·exact ym cf RA rm rc h hv w
 ·exact wI cf RA rm rc (by omega) w
end Go.Proofs.YtbfpdnnphdagjaaGreat

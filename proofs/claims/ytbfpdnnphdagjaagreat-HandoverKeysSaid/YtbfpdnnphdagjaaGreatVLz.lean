import Derived.Test.YtbfpdnnphdagjaaGreatVKz
import Derived.StillTailTactics
set_option maxRecDepth 100000
set_option maxHeartbeats 3200000
set_option linter.unusedVariables false
set_option linter.unusedSimpArgs false
namespace Go.Proofs.YtbfpdnnphdagjaaGreat
open Go.RowKit
attribute [local go_sem ↓] Go.wp_at_zero Go.wp_at_succ
theorem sj (K:Nat->Nat->Nat):Tryz.zeroCells259 = aV K 0:=by
 have h:Tryz.zeroCells259 = aV (fun _ _=>0) 0:=by kernel_rfl
 rw[h];apply Array.ext_getElem?;intro j;by_cases hj:j < 176
 ·rw[bo _ _ hj,bo _ _ hj,if_neg (by omega),if_neg (by omega)]
 ·rw[Array.getElem?_eq_none (by rw[bh];omega),Array.getElem?_eq_none (by rw[bh];omega)]
theorem sS (K:Nat->Nat->Nat) (p:Nat):(Tryz.prog.info? 259).map (·.size)=some (aV K p).size:=by rw[bh];kernel_rfl
theorem qg {w:World} {g p:Nat} {K:Nat->Nat->Nat} {t:TypeId} (h:ae w g t (aV K p)) (n:Nat) (hn:n < 11) (hp:16*n+16<=p):w.rangeAt g (n*16) (am (K n)).toList:=fun j v hv=>by
 have hj:j < 16:=by
  have:=(List.getElem?_eq_some_iff.1 hv).1
  rwa [Array.length_toList,aj]at this
 rw[Array.getElem?_toList,aN _ hj]at hv;rw[h.cell,bo _ _ (by omega),if_pos (by omega),show(n*16+j) / 16=n by omega,show(n*16+j) % 16=j by omega]
 exact hv
theorem pV {w:World} {g p:Nat} {K:Nat->Nat->Nat} {t:TypeId} (h:ae w g t (aV K p)):w.there g 0 16:=fun j hj=>by
 refine⟨?_,h.frozen _⟩;rw[h.cell,bo _ _ (by omega)]
 rfl
theorem qd (K:Nat->Nat->Nat):br (aV K 0) 0 (am (K 0)).toList=aV K 16:=by
 apply Array.ext_getElem?;intro j;have hl:(am (K 0)).toList.length=16:=by rw[Array.length_toList,aj]
 by_cases h1:j < 16
 ·have:=bt (am (K 0)).toList 0 (aV K 0) j (by omega) (by rw[bh];omega);rw[Nat.zero_add]at this;rw[this,Array.getElem?_toList,aN _ h1,bo _ _ (by omega),if_pos h1,Nat.div_eq_of_lt h1,Nat.mod_eq_of_lt h1]
 ·rw[ba _ _ _ _ (by omega)];by_cases hj:j < 176
  ·rw[bo _ _ hj,bo _ _ hj,if_neg (by omega),if_neg h1]
  ·rw[Array.getElem?_eq_none (by rw[bh];omega),Array.getElem?_eq_none (by rw[bh];omega)]
theorem ie {B g:Nat} (hg:B<=g):∀(vs:List Value) (o:Nat) (w0 w:World),Below B w0 w->Below B w0 (w.setCells g o vs)
 | [],_,_,_,h=>h
 | v :: r,o,w0,w,h=>ie hg r (o+1) w0 (w.setCell ⟨g,o,none⟩ v) (h.setCell (p:=⟨g,o,none⟩) hg v)
theorem fG {g b:Nat} (hg:b ≠ g) {t:TypeId} {cs:Array Value}:∀(vs:List Value) (o:Nat) (w:World),ae w b t cs->ae (w.setCells g o vs) b t cs
 | [],_,_,h=>h
 | v :: r,o,w,h=>fG hg r (o+1) (w.setCell ⟨g,o,none⟩ v) (h.far (p:=⟨g,o,none⟩) hg v)
theorem mH (f g key:Nat->Nat) (hf:∀j,f j < 256) (hk:bf key) (w:World):Calls Tryz.prog 159 #[.agg (aS f g),.agg (am key)] w fun e w'=>e=.returned (.agg (aV (aX f key) 176))/\Below w.heap.size w w':=by
 obtain⟨K,hK⟩:=ah (aX f key)
 have HZ:=sj K;have HKL:Hid (∀n i,i < 16->K n i < 256):=zh (by rw[hK];exact fun n i hi=>ef hf hk n i hi);have HSF:Hid (∀n,K (n+1) 0=K n 0 ^^^ f (K n 13) ^^^ tB n):=zh (by rw[hK];exact ng f key);have HSH:Hid (∀n i,i ≠ 0->i < 4->K (n+1) i=K n i ^^^ f (K n (12+(i+1) % 4))):=zh (by rw[hK];exact od f key);have HST:Hid (∀n i,4<=i->K (n+1) i=K n i ^^^ K (n+1) (i-4)):=zh (by rw[hK];exact oD f key);have HK0:Hid (am (K 0)=am key):=zh (by rw[hK];rfl);have HF:=zh hf;have HBX:=zh (fun j (hj:j < 256)=>(cz f g (j:=j) (by omega)).trans (by rw[if_pos hj]));obtain⟨BX,hBX⟩:=ah (aS f g)
 obtain⟨KY,hKY⟩:=ah (am key)
 have HSK:Hid ((Tryz.prog.info? 23).map (·.size)=some KY.size):=zh (by rw[hKY,aj];kernel_rfl);have HSKB:Hid ((Tryz.prog.info? 258).map (·.size)=some KY.size):=zh (by rw[hKY];exact aA _);have HOK:Hid (KY.all (·.oneCell')=true):=zh (by rw[hKY];exact aC _);have HKY:=zh hKY;rw[<-hK,<-hBX,<-hKY];rw[<-hBX]at HBX;clear hK hBX hKY hf hk;go_enter Tryz.func159,Tryz.ntmps159;go_upto_region 1 with (fail)
 obtain⟨sb,hsb⟩:=ah w.heap.size
 obtain⟨kb,hkb⟩:=ah (sb+1)
 obtain⟨ob,hob⟩:=ah (sb+1+1)
 refine ai (fun V=>ae V sb 256 BX/\ae V kb 23 KY/\ae V ob 259 (aV K 0)/\Below w.heap.size w V) ⟨by rw[hsb];exact((al _ _ _ _ rfl).alloc _).alloc _,by rw[hkb,hsb];exact(al _ _ _ _ (by simp)).alloc _,by rw[hob,hsb];exact al _ _ _ _ (by simp),((bR _).alloc (by simp) _).alloc (by simp;omega) _⟩ ?_;rintro W1 ⟨b1,b2,b3,b4⟩;have B1:=zh b1;have B2:=zh b2;have B3:=zh b3;have B4:=zh b4;have HS0:=zh (show w.heap.size<=sb/\sb < ob/\kb < ob/\ob < W1.heap.size by have:=b3.lt;omega);rw[<-hsb,<-hob,<-hkb];clear HZ b1 b2 b3 b4 hsb hkb hob;go_upto_region 2 with (first
  | (refine wpList_load_row rfl _ _ rfl kb rfl 23 KY (0,0) _ B2.out Tryz.underlying23 rfl HSK.out ?_)
  | (refine wpList_store_mid rfl _ _ _ rfl ob 0 KY rfl rfl (by rw[HKY.out,aj];exact pV B3.out) HSKB.out HOK.out ?_))
 refine ai (fun V=>ae V sb 256 BX/\ae V ob 259 (aV K 16)/\Below w.heap.size w V) ⟨fG (by have:=HS0.out;omega) _ _ _ B1.out,by have:=aM KY.toList 0 _ _ B3.out;rw[HKY.out,<-HK0.out,qd]at this;rw[HKY.out,<-HK0.out];exact this,ie (by have:=HS0.out;omega) _ _ _ _ B4.out⟩ ?_;rintro W2 ⟨b1,b2,b3⟩;have C1:=zh b1;have C2:=zh b2;have C3:=zh b3;clear b1 b2 b3 B1 B2 B3 B4;have SZ:=zh (show w.heap.size<=sb/\sb < ob from ⟨HS0.out.1,HS0.out.2.1⟩);clear HS0;go_wp2;go_loopw [5,6] (fun v5 v6 wr=>∃k n:Nat,k<=10/\n=k+1/\v6=.int .i64 n/\v5=.int .u8 (tB k:Nat)/\ae wr sb 256 BX/\ae wr ob 259 (aV K (16*n))/\Below w.heap.size w wr) (fun _ v6 _=>11-(intOf v6).toNat)
 case atStart=>exact⟨0,1,by omega,rfl,rfl,rfl,C1.out,C2.out,C3.out⟩
 case round=>
  clear C1 C2 C3;obtain⟨k,n,hk,hn,rfl,rfl,hB,hO,hb⟩:=hrel;have HB:=zh hB;have HO:=zh hO;have HBW:=zh hb;clear hB hO hb;by_cases hlt:k < 10
  ·have hnk:(n:Int)-1=(k:Int):=by omega
   have n10:(n:Int)<=10:=by omega
   have n0:(0:Int)<=(n:Int):=by omega
   have n1:(n:Int) < 11:=by omega
   have k0:(0:Int)<=(k:Int):=by omega
   have k1:(k:Int) < 11:=by omega
   have HN:=zh hn;have HRK:=zh (qg HO.out k (by omega) (by omega));have HSB:=zh (show(Tryz.prog.info? 258).map (·.size)=some (am (K k)).toList.length by rw[Array.length_toList,aj];kernel_rfl);have HSB2:=zh (aA (K k));have HZ2:Hid ((#[.int .u8 0,.int .u8 0,.int .u8 0,.int .u8 0,.int .u8 0,.int .u8 0,.int .u8 0,.int .u8 0,.int .u8 0,.int .u8 0,.int .u8 0,.int .u8 0,.int .u8 0,.int .u8 0,.int .u8 0,.int .u8 0]:Array Value).size=(am (K k)).size):=zh (by rw[aj];rfl);have HO2:=zh (aC (K k));have HD:=zh (fun V=>gL (tB k) (nN k) V);obtain⟨KK,hKK⟩:=ah (am (K k))
   have HKK:=zh hKK;obtain⟨pw,hpw⟩:=ah (tB k)
   obtain⟨pw',hpw'⟩:=ah (th (tB k))
   have HPW:=zh hpw;have HPW':=zh hpw';rw[<-hKK]at HRK HSB HSB2 HZ2 HO2;rw[<-hpw']at HD;rw[<-hpw]at HD ⊢;clear hn hKK hpw hpw';obtain⟨lb,hlb⟩:=ah wr.heap.size
   have HLB:=zh hlb;clear hlb;go_upto_region 7 with (first
    | (refine wpList_load_mid rfl _ _ rfl ob (k*16) rfl KK.toList _ HRK.out Tryz.underlying258 rfl HSB.out ?_)
    | (refine wpList_store_row rfl _ _ _ rfl wr.heap.size KK rfl rfl 258 #[.int .u8 0,.int .u8 0,.int .u8 0,.int .u8 0,.int .u8 0,.int .u8 0,.int .u8 0,.int .u8 0,.int .u8 0,.int .u8 0,.int .u8 0,.int .u8 0,.int .u8 0,.int .u8 0,.int .u8 0,.int .u8 0] (ae.new _ _ _) HSB2.out HZ2.out HO2.out ?_))
   rw[<-HLB.out];refine ai (fun V=>ae V sb 256 BX/\ae V ob 259 (aV K (16*n+0))/\ae V lb 258 KK/\Below w.heap.size w V) ⟨(setRow_other _ _ _ _ (by have:=HB.out.lt;have:=HLB.out;omega)).trans (HB.out.alloc _),(setRow_other _ _ _ _ (by have:=HO.out.lt;have:=HLB.out;omega)).trans (HO.out.alloc _),by rw[HLB.out];exact setRow_heap _ _ #[.int .u8 0,.int .u8 0,.int .u8 0,.int .u8 0,.int .u8 0,.int .u8 0,.int .u8 0,.int .u8 0,.int .u8 0,.int .u8 0,.int .u8 0,.int .u8 0,.int .u8 0,.int .u8 0,.int .u8 0,.int .u8 0] KK 258 (0,0) (ae.new _ _ _),by rw[HLB.out];exact ak (HBW.out.alloc HBW.out.size _) HBW.out.size _⟩ ?_;rintro W3 ⟨b1,b2,b3,b4⟩;have D1:=zh b1;have D2:=zh b2;have D3:=zh b3;have D4:=zh b4;have HLO:=zh (show sb < lb/\ob < lb by have:=HB.out.lt;have:=HO.out.lt;have:=HLB.out;omega);clear b1 b2 b3 b4 HB HO HBW HRK;have HLK:Hid (∀j,j < 16->KK[j]? = some (.int .u8 (K k j:Nat))):=zh (fun j hj=>by rw[HKK.out];exact aN _ hj);go_wp2;go_loopw [19] (fun v wr=>∃i:Nat,i<=16/\v=.int .i64 i/\ae wr sb 256 BX/\ae wr ob 259 (aV K (16*n+i))/\ae wr lb 258 KK/\Below w.heap.size w wr) (fun v _=>16-(intOf v).toNat)
   case atStart=>exact⟨0,by omega,rfl,D1.out,D2.out,D3.out,D4.out⟩
   case round=>
    clear D1 D2 D3 D4;obtain⟨i,hi,rfl,hB,hO,hL,hb⟩:=hrel;have HB:=zh hB;have HO:=zh hO;have HL:=zh hL;have HBW:=zh hb;clear hB hO hL hb;by_cases hli:i < 16
    ·have i0:(0:Int)<=(i:Int):=by omega
     have i1:(i:Int) < 16:=by omega
     have dL:({ heap:=wr.heap,tape:=wr.tape,drawn:=wr.drawn+1,os:=wr.os,output:=wr.output }:World).cell? ⟨lb,i,none⟩=some (.int .u8 (K k i:Nat)):=(HL.out.cell i).trans (HLK.out i hli);have cL:wr.cell? ⟨lb,i,none⟩=some (.int .u8 (K k i:Nat)):=dL;have HW:Hid (∀z:Nat,z=K n i->∃V,V=wr.drew/\(wr.drew).cell? ⟨ob,n*16+i,none⟩=some (.int .u8 0)/\(wr.drew).frozen? ⟨ob,n*16+i,none⟩=false/\ae (wr.drew.setCell ⟨ob,n*16+i,none⟩ (.int .u8 (z:Int))) sb 256 BX/\ae (wr.drew.setCell ⟨ob,n*16+i,none⟩ (.int .u8 (z:Int))) ob 259 (aV K (16*n+(i+1)))/\ae (wr.drew.setCell ⟨ob,n*16+i,none⟩ (.int .u8 (z:Int))) lb 258 KK/\Below w.heap.size w (wr.drew.setCell ⟨ob,n*16+i,none⟩ (.int .u8 (z:Int)))):=zh (fun z hz=>by
      have hOd:ae wr.drew ob _ _:=HO.out;have hBd:ae wr.drew sb _ _:=HB.out;have hLd:ae wr.drew lb _ _:=HL.out;refine⟨_,rfl,?_,hOd.frozen _,hBd.far (p:=⟨ob,n*16+i,none⟩) (by have:=SZ.out;show sb ≠ ob;omega) _,?_,hLd.far (p:=⟨ob,n*16+i,none⟩) (by have:=HLO.out;show lb ≠ ob;omega) _,(HBW.out.drew).setCell (p:=⟨ob,n*16+i,none⟩) (by have:=SZ.out;show w.heap.size<=ob;omega) _⟩
      ·rw[hOd.cell,bo _ _ (by omega),if_neg (by omega)];rfl
      ·have:=hOd.set_ (n*16+i) (.int .u8 (z:Int));have e:=nZ K (16*n+i) (by omega);rw[show(16*n+i) / 16=n by omega,show(16*n+i) % 16=i by omega,<-hz,show 16*n+i=n*16+i by omega]at e;rw[show 16*n+i=n*16+i by omega,e]at this;rw[show 16*n+(i+1)=n*16+i+1 by omega]
       exact this)
     have hx8:=HKL.out k i hli;rcases (by omega:i=0\/(i ≠ 0/\i < 4)\/4<=i)with hc | ⟨hc,hc4⟩ | hc
     focus
      have t0:((i:Int) == 0)=true:=by rw[beq_iff_eq];omega
      have dM:({ heap:=wr.heap,tape:=wr.tape,drawn:=wr.drawn+1,os:=wr.os,output:=wr.output }:World).cell? ⟨lb,13,none⟩=some (.int .u8 (K k 13:Nat)):=(HL.out.cell 13).trans (HLK.out 13 (by decide));have cM:wr.cell? ⟨lb,13,none⟩=some (.int .u8 (K k 13:Nat)):=dM;have dS:({ heap:=wr.heap,tape:=wr.tape,drawn:=wr.drawn+1,os:=wr.os,output:=wr.output }:World).cell? ⟨sb,K k 13,none⟩=some (.int .u8 (f (K k 13):Nat)):=(HB.out.cell _).trans (HBX.out _ (HKL.out k 13 (by decide)));have cS:wr.cell? ⟨sb,K k 13,none⟩=some (.int .u8 (f (K k 13):Nat)):=dS;have m1:((K k 13:Nat):Int) < 256:=by have:=HKL.out k 13 (by decide);omega
      have x1:=bx (K k i) (f (K k 13)) _ hx8 (HF.out _) rfl;have x2:=bx _ pw (K n i) (aU hx8 (HF.out (K k 13))) (by rw[HPW.out];exact nN k) (by rw[HPW.out,HN.out,hc,HSF.out k]);generalize K k i ^^^ f (K k 13)=x12 at x1 x2;have HW2:=HW.out (K n i) rfl;generalize K k 13=m at dM dS cM cS m1 x1;generalize f m=y at dS cS x1;generalize K k i=x at dL cL x1 hx8;generalize K n i=z at x2 HW2;have HWh:=zh HW2;clear HW2 hc HW;go_upto_region 12 with (fail)
      go_still_tail 15,(by kernel_rfl)
      clear dL dM dS cL cM cS
     rotate_left
     focus
      have t0:((i:Int) == 0)=false:=by rw[beq_eq_false_iff_ne];omega
      have t4:(i:Int) < 4:=by omega
      obtain⟨q,hq⟩:=ah (12+(i+1) % 4)
      have r1:IntKind.i64.wrap ((i:Int)+1)=(i:Int)+1:=IntWalk.i64_in _ (by omega);have r2:((i:Int)+1).tmod 4=((i:Int)+1) % 4:=Int.tmod_eq_emod_of_nonneg (by omega);have r3:IntKind.i64.wrap (((i:Int)+1) % 4)=((i:Int)+1) % 4:=IntWalk.i64_in _ (by omega);have r4:IntKind.i64.wrap (12+((i:Int)+1) % 4)=(q:Int):=by rw[IntWalk.i64_in _ (by omega)];omega
      have q0:(0:Int)<=(q:Int):=by omega
      have q1:(q:Int) < 16:=by omega
      have hqn:q < 16:=by omega
      have dM:({ heap:=wr.heap,tape:=wr.tape,drawn:=wr.drawn+1,os:=wr.os,output:=wr.output }:World).cell? ⟨lb,q,none⟩=some (.int .u8 (K k q:Nat)):=(HL.out.cell q).trans (HLK.out q hqn);have cM:wr.cell? ⟨lb,q,none⟩=some (.int .u8 (K k q:Nat)):=dM;have dS:({ heap:=wr.heap,tape:=wr.tape,drawn:=wr.drawn+1,os:=wr.os,output:=wr.output }:World).cell? ⟨sb,K k q,none⟩=some (.int .u8 (f (K k q):Nat)):=(HB.out.cell _).trans (HBX.out _ (HKL.out k q hqn));have cS:wr.cell? ⟨sb,K k q,none⟩=some (.int .u8 (f (K k q):Nat)):=dS;have m1:((K k q:Nat):Int) < 256:=by have:=HKL.out k q hqn;omega
      have x1:=bx (K k i) (f (K k q)) (K n i) hx8 (HF.out _) (by rw[HN.out,HSH.out k i hc hc4,hq]);have HW2:=HW.out (K n i) rfl;generalize K k q=m at dM dS cM cS m1 x1;generalize f m=y at dS cS x1;generalize K k i=x at dL cL x1 hx8;generalize K n i=z at x1 HW2;have HWh:=zh HW2;clear HW2 hc HW hq hqn;go_upto_region 14 with (fail)
      go_still_tail 17,(by kernel_rfl)
      clear r1 r2 r3 r4;clear dL dM dS cL cM cS
     rotate_left
     focus
      have t0:((i:Int) == 0)=false:=by rw[beq_eq_false_iff_ne];omega
      have t4:¬(i:Int) < 4:=by omega
      obtain⟨q,hq⟩:=ah (i-4)
      have r1:IntKind.i64.wrap ((i:Int)-4)=(q:Int):=by rw[IntWalk.i64_in _ (by omega)];omega
      have q0:(0:Int)<=(q:Int):=by omega
      have q1:(q:Int) < 16:=by omega
      have hqn:q < 16:=by omega
      have dM:({ heap:=wr.heap,tape:=wr.tape,drawn:=wr.drawn+1,os:=wr.os,output:=wr.output }:World).cell? ⟨ob,n*16+q,none⟩=some (.int .u8 (K n q:Nat)):=(HO.out.cell (n*16+q)).trans ((bo _ _ (by omega)).trans (by rw[if_pos (by omega),show(n*16+q) / 16=n by omega,show(n*16+q) % 16=q by omega]));have cM:wr.cell? ⟨ob,n*16+q,none⟩=some (.int .u8 (K n q:Nat)):=dM;have x1:=bx (K k i) (K n q) (K n i) hx8 (HKL.out n q hqn) (by rw[hq,HN.out];exact(HST.out k i hc).symm);have HW2:=HW.out (K n i) rfl;generalize K n q=y at dM cM x1;generalize K k i=x at dL cL x1 hx8;generalize K n i=z at x1 HW2;have HWh:=zh HW2;clear HW2 hc HW hq hqn;go_upto_region 10 with (fail)
      go_still_tail 14,(by kernel_rfl)
      clear r1;clear dL dM cL cM
     all_goals
      change wpList _ _ _ _ _ wr.drew;obtain⟨V,hV,v1,v2,v3,v4,v5,v6⟩:=HWh.out;have V3:=zh v3;have V4:=zh v4;have V5:=zh v5;have V6:=zh v6;clear hV v3 v4 v5 v6;obtain⟨WD,hWD⟩:=ah wr.drew
      rw[<-hWD]at v1 v2 V3 V4 V5 V6 ⊢;clear hWD;go_wp2;go_roundw
      case rel=>exact⟨i+1,by omega,by go_num,V3.out,V4.out,V5.out,V6.out⟩
      case measure=>simp[intOf];omega
    ·obtain rfl:i=16:=by omega
     have n1:¬(16:Int) < 16:=by omega
     go_wp2_with (go_at_call 188;refine(HD.out _).mono ?_;rintro e w4 ⟨rfl,rfl⟩);go_roundw
     case rel=>exact⟨k+1,n+1,by omega,by have:=HN.out;omega,by go_num,by rw[HPW'.out];rfl,HB.out,HO.out,HBW.out⟩
     case measure=>simp[intOf];omega
  ·obtain rfl:k=10:=by omega
   subst hn;have HSZ:=zh (sS K 176);have HO1:=zh (ow K 176);have HO':Hid (ae wr ob 259 (aV K 176)):=zh HO.out;obtain⟨X,hX⟩:=ah (aV K 176)
   have HX:=zh hX;rw[<-hX]at HO' HSZ HO1;clear hX HO;have n1:¬(11:Int)<=10:=by omega
   obtain⟨p0,hp0⟩:=ah (tB 10)
   rw[<-hp0];clear hp0;go_wp2_with (first
    | (refine wpList_load_row rfl _ _ rfl ob rfl 259 X (0,0) _ HO'.out Tryz.underlying259 rfl HSZ.out ?_)
    | (refine wpList_store_row rfl _ _ _ rfl ob X rfl rfl 259 X HO'.out HSZ.out rfl HO1.out ?_))
   refine bodyPost_ret (v:=.agg X) (results_cell_row (g:=ob) (t:=259) (fr:=(0,0)) Tryz.results159 _ _ X _ rfl (setRow_heap wr ob X X 259 (0,0) HO'.out) Tryz.underlying259 rfl HSZ.out) rfl ⟨by rw[HX.out],?_⟩
   exact ak HBW.out (by have:=SZ.out;omega) _
end Go.Proofs.YtbfpdnnphdagjaaGreat

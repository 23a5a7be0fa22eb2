import Derived.Test.YtnadmdadcpemnaaGreatRCq
set_option maxRecDepth 100000
set_option maxHeartbeats 3200000
namespace Go.Proofs.YtnadmdadcpemnaaGreat
set_option linter.unusedVariables false
set_option linter.unusedSimpArgs false
open Go.RowKit
attribute [local go_sem ↓] Go.wp_at_zero Go.wp_at_succ
private theorem tkL {P:Program} {ops:Array Oper} {Q:Exit->Act->World->Prop} {md:Region.Mode} {S:World->Prop} {L i:Nat} {oi:Oper} {v:Value} {fuel:Nat} {listed l':Array Bool} {a a':Act} {w:World} (hi:ops[i]? = some oi) (hy:YieldsIf P ops S oi v a) (hS:S w)
  (h:wpAnyL P md ops Q S L fuel l' a' w) (hl:listed.setIfInBounds i true=l':=by(try simp only[qa,qb,qc]);rfl) (ha:a.put oi.dst v=a':=by(try simp only[Act.put,qa,qb,qc]);rfl) (hL:waitsFor md ops L i=true:=by kernel_rfl) (hs:Region.noSelect ops=true:=by kernel_rfl) (hf:Region.free md ops listed i=true:=by kernel_rfl) (hr:(Region.ready md ops listed).contains i=true:=by kernel_rfl)
  (hQ:∀c a w,Q (.panic c) (a.put oi.dst v) w->Q (.panic c) a w:=by exact fun _ _ _ h=>h):wpAnyL P md ops Q S L (fuel+1) listed a w:=by subst hl;subst ha;exact wpAnyL_take hi hL hs hf hr hQ hy hS h
def ss (b:Nat->Nat):Nat->Nat:=sShift (sSub b)
theorem ss_at (b:Nat->Nat) (c r:Nat) (hc:c < 4) (hr:r < 4):ss b (4*c+r)=sbx (b (4*((c+r) % 4)+r)):=by
 unfold ss sShift sSub;rw[show(4*c+r+4*((4*c+r) % 4)) % 16=4*((c+r) % 4)+r by omega]
theorem ss_lt (b:Nat->Nat):B16 (ss b):=sShift_lt (sSub_lt b)
def upto (k:Nat) (f:Nat->Nat):Nat->Nat:=fun j=>if j < k then f j else 0
theorem upto_set (k:Nat) (f:Nat->Nat) (hk:k < 16):(b16 (upto k f)).setIfInBounds k (.int .u8 ((f k:Nat):Int))=b16 (upto (k+1) f):=by
 rw[b16_set _ _ _ hk];refine b16_congr fun j hj=>?_;unfold upd upto;by_cases e:j=k
 ·subst e;rw[if_pos rfl,if_pos (by omega)]
 ·rw[if_neg e];by_cases h2:j < k
  ·rw[if_pos h2,if_pos (by omega)]
  ·rw[if_neg h2,if_neg (by omega)]
theorem upto_all (f:Nat->Nat):b16 (upto 16 f)=b16 f:=b16_congr fun j hj=>by unfold upto;rw[if_pos hj]
def cross (k:Nat) (f g:Nat->Nat):Nat->Nat:=fun j=>if j < k then f j else g j
theorem cross_set (k:Nat) (f g:Nat->Nat) (hk:k < 16):(b16 (cross k f g)).setIfInBounds k (.int .u8 ((f k:Nat):Int))=b16 (cross (k+1) f g):=by
 rw[b16_set _ _ _ hk];refine b16_congr fun j hj=>?_;unfold upd cross;by_cases e:j=k
 ·subst e;rw[if_pos rfl,if_pos (by omega)]
 ·rw[if_neg e];by_cases h2:j < k
  ·rw[if_pos h2,if_pos (by omega)]
  ·rw[if_neg h2,if_neg (by omega)]
theorem cross_none (f g:Nat->Nat):b16 (cross 0 f g)=b16 g:=b16_congr fun j hj=>by unfold cross;rw[if_neg (by omega)]
theorem cross_all (f g:Nat->Nat):b16 (cross 16 f g)=b16 f:=b16_congr fun j hj=>by unfold cross;rw[if_pos hj]
theorem mix0 (s:Nat->Nat) (h:B16 s) (c:Nat) (hc:c < 4):mixAt s (4*c)=rMul 2 (s (4*c)) ^^^ rMul 3 (s (4*c+1)) ^^^ s (4*c+2) ^^^ s (4*c+3):=by
 unfold mixAt;rw[show 4*c / 4*4+(4*c+0) % 4=4*c by omega,show 4*c / 4*4+(4*c+1) % 4=4*c+1 by omega,show 4*c / 4*4+(4*c+2) % 4=4*c+2 by omega,show 4*c / 4*4+(4*c+3) % 4=4*c+3 by omega,
  rMul_two _ (h _ (by omega)),rMul_three _ (h _ (by omega)),gmul_one _ (h _ (by omega)),gmul_one _ (h _ (by omega)),Nat.zero_xor]
theorem mix1 (s:Nat->Nat) (h:B16 s) (c:Nat) (hc:c < 4):mixAt s (4*c+1)=s (4*c) ^^^ rMul 2 (s (4*c+1)) ^^^ rMul 3 (s (4*c+2)) ^^^ s (4*c+3):=by
 unfold mixAt;rw[show(4*c+1) / 4*4+(4*c+1+0) % 4=4*c+1 by omega,show(4*c+1) / 4*4+(4*c+1+1) % 4=4*c+2 by omega,show(4*c+1) / 4*4+(4*c+1+2) % 4=4*c+3 by omega,show(4*c+1) / 4*4+(4*c+1+3) % 4=4*c by omega,
  rMul_two _ (h _ (by omega)),rMul_three _ (h _ (by omega)),gmul_one _ (h _ (by omega)),gmul_one _ (h _ (by omega)),Nat.zero_xor,Nat.xor_comm _ (s (4*c)),<-Nat.xor_assoc,<-Nat.xor_assoc]
theorem mix2 (s:Nat->Nat) (h:B16 s) (c:Nat) (hc:c < 4):mixAt s (4*c+2)=s (4*c) ^^^ s (4*c+1) ^^^ rMul 2 (s (4*c+2)) ^^^ rMul 3 (s (4*c+3)):=by
 unfold mixAt;rw[show(4*c+2) / 4*4+(4*c+2+0) % 4=4*c+2 by omega,show(4*c+2) / 4*4+(4*c+2+1) % 4=4*c+3 by omega,show(4*c+2) / 4*4+(4*c+2+2) % 4=4*c by omega,show(4*c+2) / 4*4+(4*c+2+3) % 4=4*c+1 by omega,
  rMul_two _ (h _ (by omega)),rMul_three _ (h _ (by omega)),gmul_one _ (h _ (by omega)),gmul_one _ (h _ (by omega)),Nat.zero_xor]
 generalize rMul 2 (s (4*c+2))=a at *;generalize gmul 2 (s (4*c+2))=a;generalize gmul 3 (s (4*c+3))=b;rw[Nat.xor_assoc (a ^^^ b),Nat.xor_comm (a ^^^ b),<-Nat.xor_assoc]
theorem mix3 (s:Nat->Nat) (h:B16 s) (c:Nat) (hc:c < 4):mixAt s (4*c+3)=rMul 3 (s (4*c)) ^^^ s (4*c+1) ^^^ s (4*c+2) ^^^ rMul 2 (s (4*c+3)):=by
 unfold mixAt;rw[show(4*c+3) / 4*4+(4*c+3+0) % 4=4*c+3 by omega,show(4*c+3) / 4*4+(4*c+3+1) % 4=4*c by omega,show(4*c+3) / 4*4+(4*c+3+2) % 4=4*c+1 by omega,show(4*c+3) / 4*4+(4*c+3+3) % 4=4*c+2 by omega,
  rMul_two _ (h _ (by omega)),rMul_three _ (h _ (by omega)),gmul_one _ (h _ (by omega)),gmul_one _ (h _ (by omega)),Nat.zero_xor]
 generalize gmul 2 (s (4*c+3))=a;generalize gmul 3 (s (4*c))=b;rw[Nat.xor_assoc a,Nat.xor_assoc a,Nat.xor_comm a]
theorem renc_ok (key b:Nat->Nat) (hk:B16 key) (hb:B16 b) (w:World):Calls Tryz.prog 69 #[.agg (b16 key),.agg (b16 b)] w fun e w'=>e=.returned (.agg (b16 (aesF key b)))/\Below w.heap.size w w':=by
 obtain⟨K,hK⟩:∃K,K=sched sbx key:=⟨_,rfl⟩
 have HKB:Hid (∀n,B16 (K n)):=zh (by rw[hK];exact fun n i hi=>sched_lt (boxK_lt 255) hk n i hi);have HKEYS:=zh (fun V=>rkeys_ok key hk V);rw[<-hK]at HKEYS;obtain⟨BK,hBK⟩:∃BK,BK=b16 key:=⟨_,rfl⟩
 have HIK:=zh (show(Tryz.prog.info? 23).map (·.size)=some BK.size by rw[hBK];exact size16 _);have HIA:=zh (fun f=>size16 f);have HIB:=zh (size16 b);have HRT:Hid (∀n,n<=10->B16 (sRounds K b n)):=zh (fun n _=>sRounds_lt HKB.out hb n);have HADD:=zh (fun V=>radd_ok b (K 0) hb (HKB.out 0) V);have HA0:Hid (b16 (fun j=>b j ^^^ K 0 j)=b16 (sRounds K b 0)):=zh rfl;rw[HA0.out]at HADD;have HKO:=zh (show ∀n,n < 11->∀j,j < 16->(keyArr K 176)[16*n+j]? = some (.int .u8 ((K n j:Nat):Int))from fun n hn j hj=>by
  rw[keyArr_at K 176 (by omega),if_pos (by omega),show(16*n+j) / 16=n by omega,show(16*n+j) % 16=j by omega])
 have HRES:Hid (aesF key b=sRounds K b 10):=zh (by rw[hK];rfl);rw[HRES.out];obtain⟨B0,hB0⟩:∃B0,B0=b16 b:=⟨_,rfl⟩
 obtain⟨KR0,hKR0⟩:∃X,X=b16 (K 0):=⟨_,rfl⟩
 obtain⟨R,hR⟩:∃R:Nat->Array Value,R=fun n=>b16 (sRounds K b n):=⟨_,rfl⟩
 have HRE:Hid (∀n,b16 (sRounds K b n)=R n):=zh (by rw[hR];exact fun n=>rfl);rw[HRE.out,<-hKR0,<-hB0]at HADD;rw[<-hB0]at HIB;rw[<-hBK]at HKEYS;rw[HRE.out,<-hB0,<-hBK];obtain⟨KA,hKA⟩:∃KA,KA=keyArr K 176:=⟨_,rfl⟩
 have HIKA:=zh (show(Tryz.prog.info? 144).map (·.size)=some KA.size by rw[hKA,keyArr_size];kernel_rfl);have HKAO:=zh (show KA.all (·.oneCell')=true by rw[hKA];exact keyArr_one K 176);have HKS:=zh (show KA.size=176 by rw[hKA];exact keyArr_size K 176);rw[<-hKA]at HKEYS HKO;have HR0S:=zh (show(R 0).size=16/\(R 0).all (·.oneCell')=true by rw[hR];exact⟨b16_size _,b16_one _⟩);have HIR0:=zh (show(Tryz.prog.info? 23).map (·.size)=some (R 0).size by rw[HR0S.out.1];kernel_rfl);have HROW:=zh (show ∀(V:World) (y n:Nat),Blk V y 144 KA->n < 11->V.rangeAt y (16*n) (b16 (K n)).toList from fun V y n hB hn j v hj=>by
  have hj2:(b16 (K n))[j]? = some v:=by rw[<-Array.getElem?_toList];exact hj
  have hlt:j < 16:=by
   rcases Nat.lt_or_ge j 16 with h | h
   ·exact h
   ·rw[Array.getElem?_eq_none (by rw[b16_size];exact h)]at hj2;cases hj2
  rw[b16_at _ hlt]at hj2;rw[hB.cell (16*n+j),HKO.out n hn j hlt]
  exact hj2)
 have HKR:=zh hKR0;have HZK:=zh (show(Tryz.zeroCells144).size=KA.size by rw[HKS.out];kernel_rfl);have HBE:=zh hB0;clear hK hBK hB0 hKR0 hR hKA HA0 hk hb;go_enter Tryz.func69,Tryz.ntmps69;go_upto_region 1 with (fail)
 obtain⟨kb,hkb⟩:∃kb,kb=w.heap.size:=⟨_,rfl⟩
 obtain⟨xb,hxb⟩:∃xb,xb=kb+1:=⟨_,rfl⟩
 obtain⟨ob,hob⟩:∃ob,ob=kb+1+1:=⟨_,rfl⟩
 obtain⟨Z,hZ⟩:∃Z:Array Value,Z=#[.int .u8 0,.int .u8 0,.int .u8 0,.int .u8 0,.int .u8 0,.int .u8 0,.int .u8 0,.int .u8 0,.int .u8 0,.int .u8 0,.int .u8 0,.int .u8 0,.int .u8 0,.int .u8 0,.int .u8 0,.int .u8 0]:=⟨_,rfl⟩
 refine wp_let (fun V=>Blk V kb 23 BK/\Blk V xb 23 B0/\Blk V ob 23 Z/\Below w.heap.size w V) ⟨by rw[hkb];exact((blk_atA _ _ _ _ rfl).alloc _).alloc _,by rw[hxb,hkb];exact(blk_atA _ _ _ _ (by simp)).alloc _,by rw[hob,hkb,hZ];exact blk_atA _ _ _ _ (by simp),((bnA _).alloc (by simp) _).alloc (by simp;omega) _⟩ ?_;rintro W1 ⟨b1,b2,b3,b4⟩;have B1:=zh b1;have B2:=zh b2;have B3:=zh b3;have B4:=zh b4;have HS0:=zh (show w.heap.size<=kb/\kb < xb/\xb < ob by omega);rw[<-hkb,<-hob,<-hxb];clear b1 b2 b3 b4 hkb hob hxb;go_upto_region 2 with (first
  | (refine wpList_load_row rfl _ _ rfl kb rfl 23 BK (0,0) _ B1.out Tryz.underlying23 rfl HIK.out ?_)
  | (refine wpList_store_row rfl _ _ _ rfl _ KA rfl rfl 144 _ (Blk.new _ _ _) HIKA.out HZK.out HKAO.out ?_)
  | (go_at_call 88;refine(HKEYS.out _).mono ?_;rintro e u1 ⟨rfl,hu1⟩;have HU1:=zh hu1;clear hu1))
 obtain⟨yb,hyb⟩:∃yb,yb=u1.heap.size:=⟨_,rfl⟩
 have HY0:=zh (show ob < yb/\w.heap.size<=yb by have h1:=B3.out.lt;have h2:=HU1.out.size;have h3:=HS0.out;omega);refine wp_let (fun V=>Blk V yb 144 KA/\Blk V xb 23 B0/\Blk V ob 23 Z/\Below w.heap.size w V) ⟨by rw[hyb];exact setRow_heap _ _ _ KA 144 (0,0) (Blk.new _ _ _),by rw[<-hyb];exact(setRow_other _ _ _ _ (by have:=HY0.out;have:=HS0.out;omega)).trans ((B2.out.below HU1.out B2.out.lt).alloc _),by rw[<-hyb];exact(setRow_other _ _ _ _ (by have:=HY0.out;omega)).trans ((B3.out.below HU1.out B3.out.lt).alloc _),by rw[<-hyb];exact belowRow ((B4.out.trans (HU1.out.mono B4.out.size)).alloc (by have:=HY0.out;omega) _) HY0.out.2 _⟩ ?_;rintro W2 ⟨b1,b2,b3,b4⟩;have C1:=zh b1;have C2:=zh b2;have C3:=zh b3;have C4:=zh b4;rw[<-hyb];clear B1 B2 B3 B4 HU1 b1 b2 b3 b4 hyb HKEYS;have HIR:=zh (show(Tryz.prog.info? 23).map (·.size)=some KR0.toList.length by rw[HKR.out];exact size16 _);have HRG:=zh (show W2.rangeAt yb 0 KR0.toList by rw[HKR.out];exact HROW.out W2 yb 0 C1.out (by decide));go_upto_region 3 with (first
  | (refine wpList_load_row rfl _ _ rfl xb rfl 23 B0 (0,0) _ C2.out Tryz.underlying23 rfl HIB.out ?_)
  | (refine wpList_load_mid rfl _ _ rfl yb 0 rfl KR0.toList _ HRG.out Tryz.underlying23 rfl HIR.out ?_)
  | (refine wpList_store_row rfl _ _ _ rfl _ (R 0) rfl rfl 23 _ (Blk.new _ _ _) HIR0.out (by rw[HR0S.out.1];rfl) HR0S.out.2 ?_)
  | (go_at_call 89;refine(HADD.out _).mono ?_;rintro e u2 ⟨rfl,hu2⟩;have HU2:=zh hu2;clear hu2))
 obtain⟨bb,hbb⟩:∃bb,bb=u2.heap.size:=⟨_,rfl⟩
 have HY1:=zh (show yb < bb/\ob < bb/\w.heap.size<=bb by have h1:=C1.out.lt;have h2:=HU2.out.size;have h3:=HY0.out;omega);refine wp_let (fun V=>Blk V bb 23 (R 0)/\Blk V yb 144 KA/\Blk V ob 23 Z/\Below w.heap.size w V) ⟨by rw[hbb];exact setRow_heap _ _ _ (R 0) 23 (0,0) (Blk.new _ _ _),by rw[<-hbb];exact(setRow_other _ _ _ _ (by have:=HY1.out;omega)).trans ((C1.out.below HU2.out C1.out.lt).alloc _),by rw[<-hbb];exact(setRow_other _ _ _ _ (by have:=HY1.out;omega)).trans ((C3.out.below HU2.out C3.out.lt).alloc _),by rw[<-hbb];exact belowRow ((C4.out.trans (HU2.out.mono C4.out.size)).alloc (by have:=HY1.out;omega) _) HY1.out.2.2 _⟩ ?_;rintro W3 ⟨b1,b2,b3,b4⟩;have D1:=zh b1;have D2:=zh b2;have D3:=zh b3;have D4:=zh b4;rw[<-hbb];clear C1 C2 C3 C4 HU2 b1 b2 b3 b4 hbb HADD HRG HIR HKR HBE HIB HIK HZK HKAO;simp only[Act.put];go_wp2;go_loopw [7] (fun v7 wr=>∃n:Nat,1<=n/\n<=11/\v7=.int .i64 n/\Blk wr bb 23 (R (n-1))/\Blk wr yb 144 KA/\Blk wr ob 23 Z/\Below w.heap.size w wr) (fun v7 _=>11-(intOf v7).toNat)
 case atStart=>exact⟨1,by omega,by omega,rfl,D1.out,D2.out,D3.out,D4.out⟩
 case round=>
  clear D1 D2 D3 D4;obtain⟨n,hn1,hn,rfl,h1,h2,h3,h4⟩:=hrel;have E1:=zh h1;have E2:=zh h2;have E3:=zh h3;have E4:=zh h4;clear h1 h2 h3 h4;have n0:(1:Int)<=(n:Int):=by omega
  have n11:(n:Int)<=11:=by omega
  by_cases hlt:n<=10
  ·have n10:(n:Int)<=10:=by omega
   go_upto_region 7 with (fail)
   obtain⟨sb,hsb⟩:∃sb,sb=wr.heap.size:=⟨_,rfl⟩
   have HB1:=zh (show bb < sb/\yb < sb/\ob < sb/\w.heap.size<=sb by have h1:=E1.out.lt;have h3:=HY1.out;omega);refine wp_let (fun V=>Blk V sb 23 (b16 (upto 0 (ss (sRounds K b (n-1)))))/\Blk V bb 23 (R (n-1))/\Blk V yb 144 KA/\Blk V ob 23 Z/\Below w.heap.size w V) ⟨by rw[hsb];exact Blk.new _ _ _,E1.out.alloc _,E2.out.alloc _,E3.out.alloc _,E4.out.alloc (by have:=HB1.out;omega) _⟩ ?_;rintro W4 ⟨b1,b2,b3,b4,b5⟩;have F1:=zh b1;have F2:=zh b2;have F3:=zh b3;have F4:=zh b4;have F5:=zh b5;rw[<-hsb];clear b1 b2 b3 b4 b5 hsb E1 E2 E3 E4;obtain⟨B,hB⟩:∃B,B=sRounds K b (n-1):=⟨_,rfl⟩
   have HB16:=zh (show B16 B by rw[hB];exact HRT.out _ (by omega));have HRB:=zh (show R (n-1)=b16 B by rw[<-HRE.out,hB]);rw[HRB.out]at F2;rw[<-hB]at F1;have HBd:=zh hB;clear hB;have HSS:=zh (fun k hk=>upto_set k (ss B) hk);have HU0:=zh (fun k (hk:k < 16)=>(b16_at (upto k (ss B)) hk).trans (by unfold upto;rw[if_neg (by omega)]));have HBA:=zh (fun k (hk:k < 16)=>b16_at B hk);obtain⟨U,hU⟩:∃U:Nat->Array Value,U=fun k=>b16 (upto k (ss B)):=⟨_,rfl⟩
   obtain⟨BB,hBB⟩:∃BB,BB=b16 B:=⟨_,rfl⟩
   have HUE:Hid (∀k,b16 (upto k (ss B))=U k):=zh (by rw[hU];exact fun k=>rfl);rw[HUE.out]at F1;rw[<-hBB]at F2 HBA HRB;have HSS2:Hid (∀k,k < 16->(U k).setIfInBounds k (.int .u8 ((ss B k:Nat):Int))=U (k+1)):=zh (fun k hk=>by rw[<-HUE.out,<-HUE.out];exact HSS.out k hk);have HU2:Hid (∀k,k < 16->(U k)[k]? = some (.int .u8 ((0:Nat):Int))):=zh (fun k hk=>by rw[<-HUE.out];exact HU0.out k hk);have HBBE:=zh hBB;clear hU hBB HSS HU0;go_wp2;go_loopw [9] (fun v9 wr=>∃c:Nat,c<=4/\v9=.int .i64 c/\Blk wr sb 23 (U (4*c))/\Blk wr bb 23 BB/\Blk wr yb 144 KA/\Blk wr ob 23 Z/\Below w.heap.size w wr) (fun v9 _=>4-(intOf v9).toNat)
   case atStart=>exact⟨0,by omega,rfl,F1.out,F2.out,F3.out,F4.out,F5.out⟩
   case round=>
    clear F1 F2 F3 F4 F5;obtain⟨c,hc,rfl,h1,h2,h3,h4,h5⟩:=hrel;have E1:=zh h1;have E2:=zh h2;have E3:=zh h3;have E4:=zh h4;have E5:=zh h5;clear h1 h2 h3 h4 h5;have c0:(0:Int)<=(c:Int):=by omega
    by_cases hc4:c < 4
    ·have c1:(c:Int) < 4:=by omega
     go_wp2;go_loopw [10] (fun v10 wr=>∃r:Nat,r<=4/\v10=.int .i64 r/\Blk wr sb 23 (U (4*c+r))/\Blk wr bb 23 BB/\Blk wr yb 144 KA/\Blk wr ob 23 Z/\Below w.heap.size w wr) (fun v10 _=>4-(intOf v10).toNat)
     case atStart=>exact⟨0,by omega,rfl,E1.out,E2.out,E3.out,E4.out,E5.out⟩
     case round=>
      clear E1 E2 E3 E4 E5;obtain⟨r,hr,rfl,h1,h2,h3,h4,h5⟩:=hrel;have E1:=zh h1;have E2:=zh h2;have E3:=zh h3;have E4:=zh h4;have E5:=zh h5;clear h1 h2 h3 h4 h5;have r0:(0:Int)<=(r:Int):=by omega
      by_cases hr4:r < 4
      ·have r1:(r:Int) < 4:=by omega
       obtain⟨p,hp⟩:∃p,p=4*c+r:=⟨_,rfl⟩
       obtain⟨q,hq⟩:∃q,q=4*((c+r) % 4)+r:=⟨_,rfl⟩
       have ep:4*(c:Int)+(r:Int)=(p:Int):=by omega
       have eq:4*(((c:Int)+(r:Int)) % 4)+(r:Int)=(q:Int):=by omega
       have p1:(p:Int) < 16:=by omega
       have q1:(q:Int) < 16:=by omega
       have cB:wr.cell? ⟨bb,q,none⟩=some (.int .u8 ((B q:Nat):Int)):=(E2.out.cell q).trans (HBA.out q (by omega));have HSP:=zh (show(U p).setIfInBounds p (.int .u8 ((sbx (B q):Nat):Int))=U (4*c+(r+1)) by
        have h:=HSS2.out p (by omega);rw[show ss B p=sbx (B q)from by rw[hp,hq];exact ss_at B c r hc4 hr4,show p+1=4*c+(r+1) by omega]at h
        exact h)
       have HSB:=zh (fun V=>rsbox_ok (B q) (HB16.out q (by omega)) V);rw[<-hp]at E1;have cS:=(E1.out.cell p).trans (HU2.out p (by omega));have fS:=E1.out.frozen p;generalize sbx (B q)=y at HSP HSB;generalize B q=x at cB HSB;clear hp hq;go_upto_region 12 with (go_at_call 90;refine(HSB.out _).mono ?_;rintro e u3 ⟨rfl,d,rfl⟩)
       clear cB cS fS HSB ep eq;go_wp2;go_roundw
       case rel=>
        refine⟨r+1,by omega,by go_num,?_,((E2.out.drewN d).far (p:=⟨sb,p,none⟩) (by have:=HB1.out;show ¬bb=sb;omega) _),((E3.out.drewN d).far (p:=⟨sb,p,none⟩) (by have:=HB1.out;show ¬yb=sb;omega) _),((E4.out.drewN d).far (p:=⟨sb,p,none⟩) (by have:=HB1.out;show ¬ob=sb;omega) _),((below_drewN E5.out d).setCell (p:=⟨sb,p,none⟩) (by have:=HB1.out;show w.heap.size<=sb;omega) _)⟩;rw[<-HSP.out]
        exact(E1.out.drewN d).set_ p _
       case measure=>simp[intOf];omega
      ·obtain rfl:r=4:=by omega
       go_wp2;go_roundw
       case rel=>exact⟨c+1,by omega,by go_num,by rw[Nat.mul_add,Nat.mul_one];exact E1.out,E2.out,E3.out,E4.out,E5.out⟩
       case measure=>simp[intOf];omega
    ·obtain rfl:c=4:=by omega
     have HSA:=zh (show U 16=b16 (ss B) by rw[<-HUE.out];exact upto_all _);obtain⟨SA,hSA⟩:∃SA,SA=U 16:=⟨_,rfl⟩
     rw[show 4*4=16 from rfl,<-hSA]at E1;rw[<-hSA]at HSA;clear hSA HSS2 HU2 HUE c0 hc hc4;have HIS:=zh (show(Tryz.prog.info? 23).map (·.size)=some SA.size by rw[HSA.out];exact HIA.out _);have HOS:=zh (show SA.all (·.oneCell')=true by rw[HSA.out];exact b16_one _);have HZS:=zh (show BB.size=SA.size by rw[HSA.out,HBBE.out,b16_size,b16_size]);go_upto_region 15 with (first
      | (refine wpList_load_row rfl _ _ rfl sb rfl 23 SA (0,0) _ E1.out Tryz.underlying23 rfl HIS.out ?_)
      | (refine wpList_store_row rfl _ _ _ rfl bb SA rfl rfl 23 _ E2.out HIS.out HZS.out HOS.out ?_))
     refine wp_let (fun V=>Blk V bb 23 SA/\Blk V sb 23 SA/\Blk V yb 144 KA/\Blk V ob 23 Z/\Below w.heap.size w V) ⟨setRow_heap _ _ _ SA 23 (0,0) E2.out,(setRow_other _ _ _ _ (by have:=HB1.out;omega)).trans E1.out,(setRow_other _ _ _ _ (by have:=HY1.out;omega)).trans E3.out,(setRow_other _ _ _ _ (by have:=HY1.out;omega)).trans E4.out,belowRow E5.out (by have:=HY1.out;omega) _⟩ ?_;rintro W5 ⟨b1,b2,b3,b4,b5⟩;have F1:=zh b1;have F2:=zh b2;have F3:=zh b3;have F4:=zh b4;have F5:=zh b5;clear b1 b2 b3 b4 b5 E1 E2 E3 E4 E5;obtain⟨S,hS⟩:∃S,S=ss B:=⟨_,rfl⟩
     have HS16:=zh (show B16 S by rw[hS];exact ss_lt B);have HSAE:=zh (show SA=b16 S by rw[hS];exact HSA.out);have HRN:=zh (show b16 (fun j=>sMix n S j ^^^ K n j)=R n by
      obtain⟨m,rfl⟩:∃m,n=m+1:=⟨n-1,by omega⟩
      rw[<-HRE.out,hS,HBd.out]
      rfl)
     clear hS
     try simp only[Act.put]
     rcases Decidable.em (n < 10)with hn9 | hn9
     ·have n9:(n:Int) < 10:=by omega
      have HM:=zh (show sMix n S=mixAt S by unfold sMix;rw[if_neg (by omega)]);obtain⟨C,hC⟩:∃C:Nat->Array Value,C=fun k=>b16 (cross k (mixAt S) S):=⟨_,rfl⟩
      have HCS:=zh (show ∀k,k < 16->(C k).setIfInBounds k (.int .u8 ((mixAt S k:Nat):Int))=C (k+1) by rw[hC];exact fun k hk=>cross_set k _ _ hk);have HCA:=zh (show ∀k j,j < 16->k<=j->(C k)[j]? = some (.int .u8 ((S j:Nat):Int)) by rw[hC];exact fun k j hj hkj=>(b16_at _ hj).trans (by unfold cross;rw[if_neg (by omega)]));have HC0:=zh (show SA=C 0 by rw[hC,HSAE.out];exact(cross_none _ _).symm);have HCE:=zh (show C 16=b16 (mixAt S) by rw[hC];exact cross_all _ _);have HSC:=zh (show ∀j,j < 16->SA[j]? = some (.int .u8 ((S j:Nat):Int)) by rw[HSAE.out];exact fun j hj=>b16_at S hj);have HX0:=zh (fun c hc=>mix0 S HS16.out c hc);have HX1:=zh (fun c hc=>mix1 S HS16.out c hc);have HX2:=zh (fun c hc=>mix2 S HS16.out c hc);have HX3:=zh (fun c hc=>mix3 S HS16.out c hc);rw[HC0.out]at F1;clear hC;go_wp2;go_loopw [11] (fun v11 wr=>∃c:Nat,c<=4/\v11=.int .i64 c/\Blk wr bb 23 (C (4*c))/\Blk wr sb 23 SA/\Blk wr yb 144 KA/\Blk wr ob 23 Z/\Below w.heap.size w wr) (fun v11 _=>4-(intOf v11).toNat)
      case atStart=>exact⟨0,by omega,rfl,F1.out,F2.out,F3.out,F4.out,F5.out⟩
      case round=>
       clear F1 F2 F3 F4 F5;obtain⟨c,hc,rfl,h1,h2,h3,h4,h5⟩:=hrel;have E1:=zh h1;have E2:=zh h2;have E3:=zh h3;have E4:=zh h4;have E5:=zh h5;clear h1 h2 h3 h4 h5;have c0:(0:Int)<=(c:Int):=by omega
       by_cases hc4:c < 4
       ·have c1:(c:Int) < 4:=by omega
        obtain⟨a0,ha0⟩:∃a,a=4*c:=⟨_,rfl⟩
        obtain⟨a1,ha1⟩:∃a,a=4*c+1:=⟨_,rfl⟩
        obtain⟨a2,ha2⟩:∃a,a=4*c+2:=⟨_,rfl⟩
        obtain⟨a3,ha3⟩:∃a,a=4*c+3:=⟨_,rfl⟩
        have e0:4*(c:Int)=(a0:Int):=by omega
        have e1:(a0:Int)+1=(a1:Int):=by omega
        have e2:(a0:Int)+2=(a2:Int):=by omega
        have e3:(a0:Int)+3=(a3:Int):=by omega
        have l0:(a0:Int) < 16:=by omega
        have l1:(a1:Int) < 16:=by omega
        have l2:(a2:Int) < 16:=by omega
        have l3:(a3:Int) < 16:=by omega
        have HA:=zh (show a1=a0+1/\a2=a0+2/\a3=a0+3/\a3 < 16/\a0=4*c by omega);have c_0:=(E2.out.cell a0).trans (HSC.out a0 (by omega));have c_1:=(E2.out.cell a1).trans (HSC.out a1 (by omega));have c_2:=(E2.out.cell a2).trans (HSC.out a2 (by omega));have c_3:=(E2.out.cell a3).trans (HSC.out a3 (by omega));have T0:mixAt S a0=rMul 2 (S a0) ^^^ rMul 3 (S a1) ^^^ S a2 ^^^ S a3:=by rw[ha0,ha1,ha2,ha3];exact HX0.out c hc4
        have T1:mixAt S a1=S a0 ^^^ rMul 2 (S a1) ^^^ rMul 3 (S a2) ^^^ S a3:=by rw[ha0,ha1,ha2,ha3];exact HX1.out c hc4
        have T2:mixAt S a2=S a0 ^^^ S a1 ^^^ rMul 2 (S a2) ^^^ rMul 3 (S a3):=by rw[ha0,ha1,ha2,ha3];exact HX2.out c hc4
        have T3:mixAt S a3=rMul 3 (S a0) ^^^ S a1 ^^^ S a2 ^^^ rMul 2 (S a3):=by rw[ha0,ha1,ha2,ha3];exact HX3.out c hc4
        have K0:=HCS.out a0 (by omega);have K1:=HCS.out a1 (by omega);have K2:=HCS.out a2 (by omega);have K3:=HCS.out a3 (by omega);rw[T0]at K0;rw[T1]at K1;rw[T2]at K2;rw[T3]at K3;have q0:=HCA.out a0 a0 (by omega) (by omega);have q1:=HCA.out a1 a1 (by omega) (by omega);have q2:=HCA.out a2 a2 (by omega) (by omega);have q3:=HCA.out a3 a3 (by omega) (by omega);have y0:=HS16.out a0 (by omega);have y1:=HS16.out a1 (by omega);have y2:=HS16.out a2 (by omega);have y3:=HS16.out a3 (by omega);rw[<-ha0]at E1;clear T0 T1 T2 T3 ha0 ha1 ha2 ha3;generalize S a0=x0 at *;generalize S a1=x1 at *;generalize S a2=x2 at *;generalize S a3=x3 at *;have HQ:=zh (And.intro q0 (And.intro q1 (And.intro q2 q3)));have HK:=zh (And.intro K0 (And.intro K1 (And.intro K2 K3)));have HY:=zh (And.intro y0 (And.intro y1 (And.intro y2 y3)));clear q0 q1 q2 q3 K0 K1 K2 K3 y0 y1 y2 y3;go_upto_region 19 with (fail)
        go_region;refine then_let (fun V=>Blk V bb 23 (C a0)/\Blk V sb 23 SA/\Blk V yb 144 KA/\Blk V ob 23 Z/\Below w.heap.size w V) ⟨E1.out.drew,E2.out.drew,E3.out.drew,E4.out.drew,E5.out.drew⟩ ?_;clear c_0 c_1 c_2 c_3 E1 E2 E3 E4 E5;rintro U0 ⟨b1,b2,b3,b4,b5⟩;have E1:=zh b1;have E2:=zh b2;have E3:=zh b3;have E4:=zh b4;have E5:=zh b5;clear b1 b2 b3 b4 b5;obtain⟨m00,hm00⟩:∃m,m=rMul 2 x0:=⟨_,rfl⟩
        have lm00:m00 < 256:=by rw[hm00];exact Nat.mod_lt _ (by decide)
        have Hm00:Hid (∀V,Calls Tryz.prog 91 #[.int .u8 2,.int .u8 (x0:Nat)] V fun e w'=>e=.returned (.int .u8 ((m00:Nat):Int))/\V=w'):=zh (by rw[hm00];exact fun V=>rmul_ok 2 x0 (by decide) HY.out.1 V);obtain⟨m01,hm01⟩:∃m,m=rMul 3 x1:=⟨_,rfl⟩
        have lm01:m01 < 256:=by rw[hm01];exact Nat.mod_lt _ (by decide)
        have Hm01:Hid (∀V,Calls Tryz.prog 91 #[.int .u8 3,.int .u8 (x1:Nat)] V fun e w'=>e=.returned (.int .u8 ((m01:Nat):Int))/\V=w'):=zh (by rw[hm01];exact fun V=>rmul_ok 3 x1 (by decide) HY.out.2.1 V);have KK:=HK.out.1;rw[<-hm00]at KK;rw[<-hm01]at KK;have z1:=bx m00 m01 _ lm00 lm01 rfl;have z2:=bx (m00 ^^^ m01) x2 _ (xor_lt lm00 lm01) HY.out.2.2.1 rfl;have z3:=bx (m00 ^^^ m01 ^^^ x2) x3 _ (xor_lt (xor_lt lm00 lm01) HY.out.2.2.1) HY.out.2.2.2 rfl;generalize m00 ^^^ m01=o1 at z1 z2 z3 KK;generalize o1 ^^^ x2=o2 at z2 z3 KK;generalize o2 ^^^ x3=o3 at z3 KK;have HKK:=zh KK;clear KK;have cB:=(E1.out.cell a0).trans (HQ.out.1);have fB:=E1.out.frozen a0;clear hm00 lm00 hm01 lm01;go_upto_region 21 with (first
         | (go_at_call 91;with_reducible refine(Hm00.out _).mono ?_;rintro e w9 ⟨rfl,rfl⟩)
         | (go_at_call 91;with_reducible refine(Hm01.out _).mono ?_;rintro e w9 ⟨rfl,rfl⟩))
        refine wp_let (fun V=>Blk V bb 23 (C (a0+1))/\Blk V sb 23 SA/\Blk V yb 144 KA/\Blk V ob 23 Z/\Below w.heap.size w V) ⟨by rw[<-HKK.out];exact E1.out.set_ a0 _,E2.out.far (p:=⟨bb,a0,none⟩) (by have:=HB1.out;show ¬sb=bb;omega) _,E3.out.far (p:=⟨bb,a0,none⟩) (by have:=HY1.out;show ¬yb=bb;omega) _,E4.out.far (p:=⟨bb,a0,none⟩) (by have:=HY1.out;show ¬ob=bb;omega) _,E5.out.setCell (p:=⟨bb,a0,none⟩) (by have:=HY1.out;show w.heap.size<=bb;omega) _⟩ ?_;clear E1 E2 E3 E4 E5 cB fB z1 z2 z3 HKK Hm00 Hm01
        try simp only[Act.put]
        rw[show a0+1=a1 by have:=HA.out;omega];rintro U1 ⟨b1,b2,b3,b4,b5⟩;have E1:=zh b1;have E2:=zh b2;have E3:=zh b3;have E4:=zh b4;have E5:=zh b5;clear b1 b2 b3 b4 b5;obtain⟨m11,hm11⟩:∃m,m=rMul 2 x1:=⟨_,rfl⟩
        have lm11:m11 < 256:=by rw[hm11];exact Nat.mod_lt _ (by decide)
        have Hm11:Hid (∀V,Calls Tryz.prog 91 #[.int .u8 2,.int .u8 (x1:Nat)] V fun e w'=>e=.returned (.int .u8 ((m11:Nat):Int))/\V=w'):=zh (by rw[hm11];exact fun V=>rmul_ok 2 x1 (by decide) HY.out.2.1 V);obtain⟨m12,hm12⟩:∃m,m=rMul 3 x2:=⟨_,rfl⟩
        have lm12:m12 < 256:=by rw[hm12];exact Nat.mod_lt _ (by decide)
        have Hm12:Hid (∀V,Calls Tryz.prog 91 #[.int .u8 3,.int .u8 (x2:Nat)] V fun e w'=>e=.returned (.int .u8 ((m12:Nat):Int))/\V=w'):=zh (by rw[hm12];exact fun V=>rmul_ok 3 x2 (by decide) HY.out.2.2.1 V);have KK:=HK.out.2.1;rw[<-hm11]at KK;rw[<-hm12]at KK;have z1:=bx x0 m11 _ HY.out.1 lm11 rfl;have z2:=bx (x0 ^^^ m11) m12 _ (xor_lt HY.out.1 lm11) lm12 rfl;have z3:=bx (x0 ^^^ m11 ^^^ m12) x3 _ (xor_lt (xor_lt HY.out.1 lm11) lm12) HY.out.2.2.2 rfl;generalize x0 ^^^ m11=o1 at z1 z2 z3 KK;generalize o1 ^^^ m12=o2 at z2 z3 KK;generalize o2 ^^^ x3=o3 at z3 KK;have HKK:=zh KK;clear KK;have cB:=(E1.out.cell a1).trans (HQ.out.2.1);have fB:=E1.out.frozen a1;clear hm11 lm11 hm12 lm12;go_upto_region 22 with (first
         | (go_at_call 91;with_reducible refine(Hm11.out _).mono ?_;rintro e w9 ⟨rfl,rfl⟩)
         | (go_at_call 91;with_reducible refine(Hm12.out _).mono ?_;rintro e w9 ⟨rfl,rfl⟩))
        refine wp_let (fun V=>Blk V bb 23 (C (a1+1))/\Blk V sb 23 SA/\Blk V yb 144 KA/\Blk V ob 23 Z/\Below w.heap.size w V) ⟨by rw[<-HKK.out];exact E1.out.set_ a1 _,E2.out.far (p:=⟨bb,a1,none⟩) (by have:=HB1.out;show ¬sb=bb;omega) _,E3.out.far (p:=⟨bb,a1,none⟩) (by have:=HY1.out;show ¬yb=bb;omega) _,E4.out.far (p:=⟨bb,a1,none⟩) (by have:=HY1.out;show ¬ob=bb;omega) _,E5.out.setCell (p:=⟨bb,a1,none⟩) (by have:=HY1.out;show w.heap.size<=bb;omega) _⟩ ?_;clear E1 E2 E3 E4 E5 cB fB z1 z2 z3 HKK Hm11 Hm12
        try simp only[Act.put]
        rw[show a1+1=a2 by have:=HA.out;omega];rintro U2 ⟨b1,b2,b3,b4,b5⟩;have E1:=zh b1;have E2:=zh b2;have E3:=zh b3;have E4:=zh b4;have E5:=zh b5;clear b1 b2 b3 b4 b5;obtain⟨m22,hm22⟩:∃m,m=rMul 2 x2:=⟨_,rfl⟩
        have lm22:m22 < 256:=by rw[hm22];exact Nat.mod_lt _ (by decide)
        have Hm22:Hid (∀V,Calls Tryz.prog 91 #[.int .u8 2,.int .u8 (x2:Nat)] V fun e w'=>e=.returned (.int .u8 ((m22:Nat):Int))/\V=w'):=zh (by rw[hm22];exact fun V=>rmul_ok 2 x2 (by decide) HY.out.2.2.1 V);obtain⟨m23,hm23⟩:∃m,m=rMul 3 x3:=⟨_,rfl⟩
        have lm23:m23 < 256:=by rw[hm23];exact Nat.mod_lt _ (by decide)
        have Hm23:Hid (∀V,Calls Tryz.prog 91 #[.int .u8 3,.int .u8 (x3:Nat)] V fun e w'=>e=.returned (.int .u8 ((m23:Nat):Int))/\V=w'):=zh (by rw[hm23];exact fun V=>rmul_ok 3 x3 (by decide) HY.out.2.2.2 V);have KK:=HK.out.2.2.1;rw[<-hm22]at KK;rw[<-hm23]at KK;have z1:=bx x0 x1 _ HY.out.1 HY.out.2.1 rfl;have z2:=bx (x0 ^^^ x1) m22 _ (xor_lt HY.out.1 HY.out.2.1) lm22 rfl;have z3:=bx (x0 ^^^ x1 ^^^ m22) m23 _ (xor_lt (xor_lt HY.out.1 HY.out.2.1) lm22) lm23 rfl;generalize x0 ^^^ x1=o1 at z1 z2 z3 KK;generalize o1 ^^^ m22=o2 at z2 z3 KK;generalize o2 ^^^ m23=o3 at z3 KK;have HKK:=zh KK;clear KK;have cB:=(E1.out.cell a2).trans (HQ.out.2.2.1);have fB:=E1.out.frozen a2;clear hm22 lm22 hm23 lm23;go_upto_region 23 with (first
         | (go_at_call 91;with_reducible refine(Hm22.out _).mono ?_;rintro e w9 ⟨rfl,rfl⟩)
         | (go_at_call 91;with_reducible refine(Hm23.out _).mono ?_;rintro e w9 ⟨rfl,rfl⟩))
        refine wp_let (fun V=>Blk V bb 23 (C (a2+1))/\Blk V sb 23 SA/\Blk V yb 144 KA/\Blk V ob 23 Z/\Below w.heap.size w V) ⟨by rw[<-HKK.out];exact E1.out.set_ a2 _,E2.out.far (p:=⟨bb,a2,none⟩) (by have:=HB1.out;show ¬sb=bb;omega) _,E3.out.far (p:=⟨bb,a2,none⟩) (by have:=HY1.out;show ¬yb=bb;omega) _,E4.out.far (p:=⟨bb,a2,none⟩) (by have:=HY1.out;show ¬ob=bb;omega) _,E5.out.setCell (p:=⟨bb,a2,none⟩) (by have:=HY1.out;show w.heap.size<=bb;omega) _⟩ ?_;clear E1 E2 E3 E4 E5 cB fB z1 z2 z3 HKK Hm22 Hm23
        try simp only[Act.put]
        rw[show a2+1=a3 by have:=HA.out;omega];rintro U3 ⟨b1,b2,b3,b4,b5⟩;have E1:=zh b1;have E2:=zh b2;have E3:=zh b3;have E4:=zh b4;have E5:=zh b5;clear b1 b2 b3 b4 b5;obtain⟨m30,hm30⟩:∃m,m=rMul 3 x0:=⟨_,rfl⟩
        have lm30:m30 < 256:=by rw[hm30];exact Nat.mod_lt _ (by decide)
        have Hm30:Hid (∀V,Calls Tryz.prog 91 #[.int .u8 3,.int .u8 (x0:Nat)] V fun e w'=>e=.returned (.int .u8 ((m30:Nat):Int))/\V=w'):=zh (by rw[hm30];exact fun V=>rmul_ok 3 x0 (by decide) HY.out.1 V);obtain⟨m33,hm33⟩:∃m,m=rMul 2 x3:=⟨_,rfl⟩
        have lm33:m33 < 256:=by rw[hm33];exact Nat.mod_lt _ (by decide)
        have Hm33:Hid (∀V,Calls Tryz.prog 91 #[.int .u8 2,.int .u8 (x3:Nat)] V fun e w'=>e=.returned (.int .u8 ((m33:Nat):Int))/\V=w'):=zh (by rw[hm33];exact fun V=>rmul_ok 2 x3 (by decide) HY.out.2.2.2 V);have KK:=HK.out.2.2.2;rw[<-hm30]at KK;rw[<-hm33]at KK;have z1:=bx m30 x1 _ lm30 HY.out.2.1 rfl;have z2:=bx (m30 ^^^ x1) x2 _ (xor_lt lm30 HY.out.2.1) HY.out.2.2.1 rfl;have z3:=bx (m30 ^^^ x1 ^^^ x2) m33 _ (xor_lt (xor_lt lm30 HY.out.2.1) HY.out.2.2.1) lm33 rfl;generalize m30 ^^^ x1=o1 at z1 z2 z3 KK;generalize o1 ^^^ x2=o2 at z2 z3 KK;generalize o2 ^^^ m33=o3 at z3 KK;have HKK:=zh KK;clear KK;have cB:=(E1.out.cell a3).trans (HQ.out.2.2.2);have fB:=E1.out.frozen a3;clear hm30 lm30 hm33 lm33;go_upto_region 18 with (first
         | (go_at_call 91;with_reducible refine(Hm30.out _).mono ?_;rintro e w9 ⟨rfl,rfl⟩)
         | (go_at_call 91;with_reducible refine(Hm33.out _).mono ?_;rintro e w9 ⟨rfl,rfl⟩))
        refine wp_let (fun V=>Blk V bb 23 (C (a3+1))/\Blk V sb 23 SA/\Blk V yb 144 KA/\Blk V ob 23 Z/\Below w.heap.size w V) ⟨by rw[<-HKK.out];exact E1.out.set_ a3 _,E2.out.far (p:=⟨bb,a3,none⟩) (by have:=HB1.out;show ¬sb=bb;omega) _,E3.out.far (p:=⟨bb,a3,none⟩) (by have:=HY1.out;show ¬yb=bb;omega) _,E4.out.far (p:=⟨bb,a3,none⟩) (by have:=HY1.out;show ¬ob=bb;omega) _,E5.out.setCell (p:=⟨bb,a3,none⟩) (by have:=HY1.out;show w.heap.size<=bb;omega) _⟩ ?_;clear E1 E2 E3 E4 E5 cB fB z1 z2 z3 HKK Hm30 Hm33
        try simp only[Act.put]
        rintro U4 ⟨b1,b2,b3,b4,b5⟩;have E1:=zh b1;have E2:=zh b2;have E3:=zh b3;have E4:=zh b4;have E5:=zh b5;clear b1 b2 b3 b4 b5;clear e0 e1 e2 e3 l0 l1 l2 l3;go_wp2;go_roundw
        case rel=>exact⟨c+1,by omega,by go_num,by rw[show 4*(c+1)=a3+1 by have:=HA.out;omega];exact E1.out,E2.out,E3.out,E4.out,E5.out⟩
        case measure=>simp[intOf];omega
       ·obtain rfl:c=4:=by omega
        rw[show 4*4=16 from rfl,HCE.out,<-HM.out]at E1;clear HX0 HX1 HX2 HX3 HCS HCA HC0 HCE HSC c0 hc hc4;go_upto_region 24 with (fail)
        obtain⟨M,hM⟩:∃M,M=sMix n S:=⟨_,rfl⟩
        have hM16:B16 M:=by rw[hM];exact sMix_lt n HS16.out
        rw[<-hM]at E1;have HADN:Hid (∀V,Calls Tryz.prog 89 #[.agg (b16 M),.agg (b16 (K n))] V fun e w'=>e=.returned (.agg (R n))/\Below V.heap.size V w'):=zh (by
         have h:=fun V=>radd_ok M (K n) hM16 (HKB.out n) V;rw[show b16 (fun j=>M j ^^^ K n j)=R n by rw[hM];exact HRN.out]at h
         exact h)
        have HIM:=zh (show(Tryz.prog.info? 23).map (·.size)=some (b16 M).toList.length from HIA.out M);have HIN:=zh (show(Tryz.prog.info? 23).map (·.size)=some (b16 (K n)).toList.length from HIA.out (K n));have HIR:=zh (show(Tryz.prog.info? 23).map (·.size)=some (R n).size by rw[<-HRE.out];exact HIA.out _);have HOR:=zh (show(R n).all (·.oneCell')=true by rw[<-HRE.out];exact b16_one _);have HZR:=zh (show(b16 M).size=(R n).size by rw[<-HRE.out,b16_size,b16_size]);have HRW:=zh (show ∀V,Blk V yb 144 KA->V.rangeAt yb (n*16) (b16 (K n)).toList from fun V hV=>by rw[Nat.mul_comm];exact HROW.out V yb n hV (by omega));obtain⟨MA,hMA⟩:∃X,X=b16 M:=⟨_,rfl⟩
        obtain⟨KN,hKN⟩:∃X,X=b16 (K n):=⟨_,rfl⟩
        rw[<-hMA,<-hKN]at HADN;rw[<-hMA]at HIM HZR E1;rw[<-hKN]at HIN HRW;clear hM hM16 hMA hKN;have m0:(0:Int)<=(n:Int):=by omega
        have m1:(n:Int) < 11:=by omega
        clear n9;refine wp_region_L (L:=5) (S:=fun w'=>Below wr.heap.size wr w') (by kernel_rfl) ((Below.refl _ wr).drew) (fun hHeld=>?_);obtain⟨u0,hu0⟩:∃u0,u0=wr.drew:=⟨_,rfl⟩
        rw[<-hu0];rw[<-hu0]at hHeld;clear hu0;refine' tkL (i:=0) (oi:=⟨some 126,_,_,_,_,_⟩) (v:=_) rfl (yieldsIf_load_mid (by rfl) _ _ rfl bb 0 rfl MA.toList _ (fun w h=>(E1.out.below h E1.out.lt).range MA.toList rfl) Tryz.underlying23 rfl HIM.out) (by assumption) ?_;refine tkL (i:=1) (oi:=⟨some 127,_,_,_,_,_⟩) (v:=.int .i64 (n:Int)) rfl (Or.inl ⟨by rfl,fun W hW=>(by rfl)⟩) (by assumption) ?_;refine tkL (i:=2) (oi:=⟨some 128,_,_,_,_,_⟩) (v:=.pointer (some ⟨yb,n*16,none⟩)) rfl (Or.inl ⟨by rfl,fun W hW=>(by go_simp)⟩) (by assumption) ?_;refine' tkL (i:=3) (oi:=⟨some 129,_,_,_,_,_⟩) (v:=_) rfl (yieldsIf_load_mid (by rfl) _ _ rfl yb (n*16) rfl KN.toList _ (fun w h=>HRW.out w (E3.out.below h E3.out.lt)) Tryz.underlying23 rfl HIN.out) (by assumption) ?_;refine wpAnyL_one (i:=4) (o:=⟨some 130,_,_,_,_,_⟩) (by kernel_rfl) rfl (fun K hK=>?_);rw[if_pos (by rfl)];go_simp;refine(HADN.out _).mono ?_;rintro e u1 ⟨rfl,hd⟩;dsimp only;have hE:Below wr.heap.size wr u1:=hHeld.trans (hd.mono hHeld.size);refine hK.out _ _ hE (fun hHeld=>?_);clear hK K hE hd
        try simp only[Act.put,qa,qb,qc]
        refine wpAnyL_last (o:=⟨none,_,_,_,_,_⟩) (by kernel_rfl) (by kernel_rfl) rfl (fun K hK=>?_);rw[if_pos (by rfl)];have hL5:=E1.out.below hHeld E1.out.lt;refine wp_store_row _ _ _ rfl bb (R n) rfl rfl 23 _ hL5 HIR.out HZR.out HOR.out ?_;have hG1:Blk (u1.setRow bb (R n)) bb 23 (R n):=setRow_heap _ bb _ (R n) 23 (0,0) hL5;have hG3:Blk (u1.setRow bb (R n)) yb 144 KA:=(setRow_other _ _ _ _ (by have:=HY1.out;omega)).trans (E3.out.below hHeld E3.out.lt);have hG4:Blk (u1.setRow bb (R n)) ob 23 Z:=(setRow_other _ _ _ _ (by have:=HY1.out;omega)).trans (E4.out.below hHeld E4.out.lt);have hG5:Below w.heap.size w (u1.setRow bb (R n)):=belowRow (E5.out.trans (hHeld.mono E5.out.size)) (by have:=HY1.out;omega) _;obtain⟨X,hX⟩:∃X,X=(u1.setRow bb (R n)):=⟨_,rfl⟩
        rw[<-hX]at hG1 hG3 hG4 hG5 ⊢;have G1:=zh hG1;have G3:=zh hG3;have G4:=zh hG4;have G5:=zh hG5;refine hK.out _ _ ?_;clear hK K hHeld hL5 hX hG1 hG3 hG4 hG5 HADN HIM HIN HIR HOR HZR HRW E1 E2 E3 E4 E5 m0 m1
        try simp only[Act.put]
        go_wp2;go_roundw
        case rel=>exact⟨n+1,by omega,by omega,by go_num,by rw[Nat.add_sub_cancel];exact G1.out,G3.out,G4.out,G5.out⟩
        case measure=>simp[intOf];omega
     ·have hn10:n=10:=by omega
      have n9:¬((n:Int) < 10):=by omega
      have HM:=zh (show sMix n S=S by unfold sMix;rw[if_pos hn10]);rw[HSAE.out]at F1;rw[<-HM.out]at F1;have E1:=F1;have E2:=F2;have E3:=F3;have E4:=F4;have E5:=F5;clear hn10 hn9 F1 F2 F3 F4 F5;go_upto_region 24 with (fail)
      obtain⟨M,hM⟩:∃M,M=sMix n S:=⟨_,rfl⟩
      have hM16:B16 M:=by rw[hM];exact sMix_lt n HS16.out
      rw[<-hM]at E1;have HADN:Hid (∀V,Calls Tryz.prog 89 #[.agg (b16 M),.agg (b16 (K n))] V fun e w'=>e=.returned (.agg (R n))/\Below V.heap.size V w'):=zh (by
       have h:=fun V=>radd_ok M (K n) hM16 (HKB.out n) V;rw[show b16 (fun j=>M j ^^^ K n j)=R n by rw[hM];exact HRN.out]at h
       exact h)
      have HIM:=zh (show(Tryz.prog.info? 23).map (·.size)=some (b16 M).toList.length from HIA.out M);have HIN:=zh (show(Tryz.prog.info? 23).map (·.size)=some (b16 (K n)).toList.length from HIA.out (K n));have HIR:=zh (show(Tryz.prog.info? 23).map (·.size)=some (R n).size by rw[<-HRE.out];exact HIA.out _);have HOR:=zh (show(R n).all (·.oneCell')=true by rw[<-HRE.out];exact b16_one _);have HZR:=zh (show(b16 M).size=(R n).size by rw[<-HRE.out,b16_size,b16_size]);have HRW:=zh (show ∀V,Blk V yb 144 KA->V.rangeAt yb (n*16) (b16 (K n)).toList from fun V hV=>by rw[Nat.mul_comm];exact HROW.out V yb n hV (by omega));obtain⟨MA,hMA⟩:∃X,X=b16 M:=⟨_,rfl⟩
      obtain⟨KN,hKN⟩:∃X,X=b16 (K n):=⟨_,rfl⟩
      rw[<-hMA,<-hKN]at HADN;rw[<-hMA]at HIM HZR E1;rw[<-hKN]at HIN HRW;clear hM hM16 hMA hKN;have m0:(0:Int)<=(n:Int):=by omega
      have m1:(n:Int) < 11:=by omega
      clear n9;refine wp_region_L (L:=5) (S:=fun w'=>Below W5.heap.size W5 w') (by kernel_rfl) ((Below.refl _ W5).drew) (fun hHeld=>?_);obtain⟨u0,hu0⟩:∃u0,u0=W5.drew:=⟨_,rfl⟩
      rw[<-hu0];rw[<-hu0]at hHeld;clear hu0;refine' tkL (i:=0) (oi:=⟨some 126,_,_,_,_,_⟩) (v:=_) rfl (yieldsIf_load_mid (by rfl) _ _ rfl bb 0 rfl MA.toList _ (fun w h=>(E1.out.below h E1.out.lt).range MA.toList rfl) Tryz.underlying23 rfl HIM.out) (by assumption) ?_;refine tkL (i:=1) (oi:=⟨some 127,_,_,_,_,_⟩) (v:=.int .i64 (n:Int)) rfl (Or.inl ⟨by rfl,fun W hW=>(by rfl)⟩) (by assumption) ?_;refine tkL (i:=2) (oi:=⟨some 128,_,_,_,_,_⟩) (v:=.pointer (some ⟨yb,n*16,none⟩)) rfl (Or.inl ⟨by rfl,fun W hW=>(by go_simp)⟩) (by assumption) ?_;refine' tkL (i:=3) (oi:=⟨some 129,_,_,_,_,_⟩) (v:=_) rfl (yieldsIf_load_mid (by rfl) _ _ rfl yb (n*16) rfl KN.toList _ (fun w h=>HRW.out w (E3.out.below h E3.out.lt)) Tryz.underlying23 rfl HIN.out) (by assumption) ?_;refine wpAnyL_one (i:=4) (o:=⟨some 130,_,_,_,_,_⟩) (by kernel_rfl) rfl (fun K hK=>?_);rw[if_pos (by rfl)];go_simp;refine(HADN.out _).mono ?_;rintro e u1 ⟨rfl,hd⟩;dsimp only;have hE:Below W5.heap.size W5 u1:=hHeld.trans (hd.mono hHeld.size);refine hK.out _ _ hE (fun hHeld=>?_);clear hK K hE hd
      try simp only[Act.put,qa,qb,qc]
      refine wpAnyL_last (o:=⟨none,_,_,_,_,_⟩) (by kernel_rfl) (by kernel_rfl) rfl (fun K hK=>?_);rw[if_pos (by rfl)];have hL5:=E1.out.below hHeld E1.out.lt;refine wp_store_row _ _ _ rfl bb (R n) rfl rfl 23 _ hL5 HIR.out HZR.out HOR.out ?_;have hG1:Blk (u1.setRow bb (R n)) bb 23 (R n):=setRow_heap _ bb _ (R n) 23 (0,0) hL5;have hG3:Blk (u1.setRow bb (R n)) yb 144 KA:=(setRow_other _ _ _ _ (by have:=HY1.out;omega)).trans (E3.out.below hHeld E3.out.lt);have hG4:Blk (u1.setRow bb (R n)) ob 23 Z:=(setRow_other _ _ _ _ (by have:=HY1.out;omega)).trans (E4.out.below hHeld E4.out.lt);have hG5:Below w.heap.size w (u1.setRow bb (R n)):=belowRow (E5.out.trans (hHeld.mono E5.out.size)) (by have:=HY1.out;omega) _;obtain⟨X,hX⟩:∃X,X=(u1.setRow bb (R n)):=⟨_,rfl⟩
      rw[<-hX]at hG1 hG3 hG4 hG5 ⊢;have G1:=zh hG1;have G3:=zh hG3;have G4:=zh hG4;have G5:=zh hG5;refine hK.out _ _ ?_;clear hK K hHeld hL5 hX hG1 hG3 hG4 hG5 HADN HIM HIN HIR HOR HZR HRW E1 E2 E3 E4 E5 m0 m1
      try simp only[Act.put]
      go_wp2;go_roundw
      case rel=>exact⟨n+1,by omega,by omega,by go_num,by rw[Nat.add_sub_cancel];exact G1.out,G3.out,G4.out,G5.out⟩
      case measure=>simp[intOf];omega
  ·obtain rfl:n=11:=by omega
   have HIX:=zh (show(Tryz.prog.info? 23).map (·.size)=some (R 10).size by rw[<-HRE.out];exact HIA.out _);have HOX:=zh (show(R 10).all (·.oneCell')=true by rw[<-HRE.out];exact b16_one _);have HZX:=zh (show Z.size=(R 10).size by rw[<-HRE.out,b16_size,hZ];rfl);have E6:=zh (show Blk wr bb 23 (R 10)from E1.out);obtain⟨X,hX⟩:∃X,X=R 10:=⟨_,rfl⟩
   rw[<-hX]at HIX HOX HZX E6;have HXE:=zh hX;clear hX E1;go_wp2_with (first
    | (refine wpList_load_row rfl _ _ rfl bb rfl 23 X (0,0) _ E6.out Tryz.underlying23 rfl HIX.out ?_)
    | (refine wpList_store_row rfl _ _ _ rfl ob X rfl rfl 23 _ E3.out HIX.out HZX.out HOX.out ?_))
   refine bodyPost_ret (v:=.agg X) (results_cell_row (g:=ob) (t:=23) (fr:=(0,0)) Tryz.results69 _ _ X _ rfl (setRow_heap wr ob _ X 23 (0,0) E3.out) Tryz.underlying23 rfl HIX.out) rfl ⟨by rw[HXE.out],?_⟩
   exact belowRow E4.out (by have:=HS0.out;omega) _
end Go.Proofs.YtnadmdadcpemnaaGreat

import Derived.Test.YtnadmdadcpemnaaGreatRBq
import Derived.Test.YtnadmdadcpemnaaGreatRLq
import Derived.BigRegion
set_option maxRecDepth 100000
set_option maxHeartbeats 3200000
namespace Go.Proofs.YtnadmdadcpemnaaGreat
set_option linter.unusedVariables false
set_option linter.unusedSimpArgs false
open Go.RowKit
attribute [local go_sem ↓] Go.wp_at_zero Go.wp_at_succ
private theorem tkL {P:Program} {ops:Array Oper} {Q:Exit->Act->World->Prop} {md:Region.Mode} {S:World->Prop} {L i:Nat} {oi:Oper} {v:Value} {fuel:Nat} {listed l':Array Bool} {a a':Act} {w:World} (hi:ops[i]? = some oi) (hy:YieldsIf P ops S oi v a) (hS:S w)
  (h:wpAnyL P md ops Q S L fuel l' a' w) (hl:listed.setIfInBounds i true=l':=by(try simp only[qa,qb,qc]);rfl) (ha:a.put oi.dst v=a':=by(try simp only[Act.put,qa,qb,qc]);rfl) (hL:waitsFor md ops L i=true:=by kernel_rfl) (hs:Region.noSelect ops=true:=by kernel_rfl) (hf:Region.free md ops listed i=true:=by kernel_rfl) (hr:(Region.ready md ops listed).contains i=true:=by kernel_rfl)
  (hQ:∀c a w,Q (.panic c) (a.put oi.dst v) w->Q (.panic c) a w:=by exact fun _ _ _ h=>h):wpAnyL P md ops Q S L (fuel+1) listed a w:=by subst hl;subst ha;exact wpAnyL_take hi hL hs hf hr hQ hy hS h
def kw (key:Nat->Nat) (c:Nat):Nat:=sched sbx key (c / 16) (c % 16)
theorem kw_lt {key:Nat->Nat} (hk:B16 key) (c:Nat):kw key c < 256:=sched_lt (boxK_lt 255) hk _ _ (Nat.mod_lt _ (by decide))
def tW (key:Nat->Nat) (i k:Nat):Nat:=if i % 4=0 then (if k=0 then sbx (kw key (4*i-3)) ^^^ pw2 (i / 4-1) else sbx (kw key (4*i-4+(k+1) % 4))) else kw key (4*i-4+k)
theorem kw_step (key:Nat->Nat) (i k:Nat) (h4:4<=i) (hk:k < 4):kw key (4*i+k)=kw key (4*i+k-16) ^^^ tW key i k:=by
 obtain⟨n,hn⟩:∃n,i / 4=n+1:=⟨i / 4-1,by omega⟩
 have e1:(4*i+k) / 16=n+1:=by omega
 have e2:(4*i+k-16) / 16=n:=by omega
 have e3:(4*i+k-16) % 16=(4*i+k) % 16:=by omega
 unfold tW;by_cases h0:i % 4=0
 ·rw[if_pos h0];have e4:(4*i+k) % 16=k:=by omega
  by_cases hk0:k=0
  ·subst hk0;rw[if_pos rfl];unfold kw;rw[e1,e2,e3,e4,sched_first,show(4*i-3) / 16=n by omega,show(4*i-3) % 16=13 by omega,hn,Nat.add_sub_cancel,Nat.xor_assoc]
  ·rw[if_neg hk0];unfold kw;rw[e1,e2,e3,e4,sched_head _ _ _ _ hk0 hk,show(4*i-4+(k+1) % 4) / 16=n by omega,show(4*i-4+(k+1) % 4) % 16=12+(k+1) % 4 by omega]
 ·rw[if_neg h0];unfold kw;rw[e1,e2,e3,sched_tail _ _ _ _ (show 4<=(4*i+k) % 16 by omega),show(4*i-4+k) / 16=n+1 by omega,show(4*i-4+k) % 16=(4*i+k) % 16-4 by omega]
theorem tW_lt {key:Nat->Nat} (hk:B16 key) (i k:Nat):tW key i k < 256:=by
 unfold tW
 split
 ·split
  ·exact xor_lt (boxK_lt 255 _) (pw2_lt _)
  ·exact boxK_lt 255 _
 ·exact kw_lt hk _
theorem zeroK295 (K:Nat->Nat->Nat):Tryz.zeroCells144 = keyArr K 0:=by
 have h:Tryz.zeroCells144 = keyArr (fun _ _=>0) 0:=by kernel_rfl
 rw[h];apply Array.ext_getElem?;intro j;by_cases hj:j < 176
 ·rw[keyArr_at _ _ hj,keyArr_at _ _ hj,if_neg (by omega),if_neg (by omega)]
 ·rw[Array.getElem?_eq_none (by rw[keyArr_size];omega),Array.getElem?_eq_none (by rw[keyArr_size];omega)]
theorem zeroK310 (K:Nat->Nat->Nat):Tryz.zeroCells168 = keyArr K 0:=by
 have h:Tryz.zeroCells168 = keyArr (fun _ _=>0) 0:=by kernel_rfl
 rw[h];apply Array.ext_getElem?;intro j;by_cases hj:j < 176
 ·rw[keyArr_at _ _ hj,keyArr_at _ _ hj,if_neg (by omega),if_neg (by omega)]
 ·rw[Array.getElem?_eq_none (by rw[keyArr_size];omega),Array.getElem?_eq_none (by rw[keyArr_size];omega)]
theorem pw2_next (n:Nat):rMul (pw2 n) 2=pw2 (n+1):=rMul_dbl _ (pw2_lt n)
theorem rkeys_ok (key:Nat->Nat) (hk:B16 key) (w:World):Calls Tryz.prog 88 #[.agg (b16 key)] w fun e w'=>e=.returned (.agg (keyArr (sched sbx key) 176))/\Below w.heap.size w w':=by
 obtain⟨K,hK⟩:∃K,K=sched sbx key:=⟨_,rfl⟩
 have HZ1:=zeroK295 K;have HZ2:=zeroK310 K;have HKW:Hid (∀c,kw key c=K (c / 16) (c % 16)):=zh (by rw[hK];exact fun c=>rfl);have HKL:=zh (fun c=>kw_lt hk c);have HK0:=zh (show ∀j,j < 16->(b16 key)[j]? = some (.int .u8 ((kw key j:Nat):Int))from fun j hj=>by
  rw[b16_at _ hj];unfold kw;rw[Nat.div_eq_of_lt hj,Nat.mod_eq_of_lt hj]
  rfl)
 have HST:=zh (fun i k h4 hk=>kw_step key i k h4 hk);have HTL:=zh (fun i k=>tW_lt hk i k);have HSET:=zh (show ∀p,p < 176->(keyArr K p).setIfInBounds p (.int .u8 ((kw key p:Nat):Int))=keyArr K (p+1)from fun p hp=>by rw[HKW.out];exact keyArr_set K p hp);have HAT:=zh (show ∀p c,c < 176->(keyArr K p)[c]? = some (.int .u8 ((if c < p then kw key c else 0:Nat):Int))from fun p c hc=>by rw[HKW.out];exact keyArr_at K p hc);have HSZ:=zh (keyArr_size K);have HON:=zh (keyArr_one K);obtain⟨E,hE⟩:∃E,E=keyArr K:=⟨_,rfl⟩
 obtain⟨BK,hBK⟩:∃BK,BK=b16 key:=⟨_,rfl⟩
 rw[<-hK,<-hE,<-hBK];rw[<-hE]at HZ1 HZ2 HSET HAT HSZ HON;rw[<-hBK]at HK0;clear hK hE hBK hk;go_enter Tryz.func88,Tryz.ntmps88;go_upto_region 2 with (fail)
 obtain⟨kb,hkb⟩:∃kb,kb=w.heap.size:=⟨_,rfl⟩
 obtain⟨ob,hob⟩:∃ob,ob=kb+1:=⟨_,rfl⟩
 obtain⟨wb,hwb⟩:∃wb,wb=kb+1+1:=⟨_,rfl⟩
 refine wp_let (fun V=>Blk V kb 23 BK/\Blk V ob 144 (E 0)/\Blk V wb 168 (E 0)/\Below w.heap.size w V) ⟨by rw[hkb];exact((blk_atA _ _ _ _ rfl).alloc _).alloc _,by rw[hob,hkb];exact(blk_atA _ _ _ _ (by simp)).alloc _,by rw[hwb,hkb];exact blk_atA _ _ _ _ (by simp),((bnA _).alloc (by simp) _).alloc (by simp;omega) _⟩ ?_;rintro W1 ⟨b1,b2,b3,b4⟩;have B1:=zh b1;have B2:=zh b2;have B3:=zh b3;have B4:=zh b4;have HS0:=zh (show w.heap.size<=kb/\kb < ob/\ob < wb by omega);rw[<-hkb,<-hwb,<-hob];have HZ3:=zh HZ1;clear HZ1 HZ2 b1 b2 b3 b4 hkb hob hwb;go_wp2;go_loopw [4] (fun v4 wr=>∃k:Nat,k<=16/\v4=.int .i64 k/\Blk wr kb 23 BK/\Blk wr ob 144 (E 0)/\Blk wr wb 168 (E k)/\Below w.heap.size w wr) (fun v4 _=>16-(intOf v4).toNat)
 case atStart=>exact⟨0,by omega,rfl,B1.out,B2.out,B3.out,B4.out⟩
 case round=>
  clear B1 B2 B3 B4;obtain⟨k,hk,rfl,hA,hB,hC,hb⟩:=hrel;have HA:=zh hA;have HB:=zh hB;have HC:=zh hC;have HBW:=zh hb;clear hA hB hC hb;by_cases hlt:k < 16
  ·have k0:(0:Int)<=(k:Int):=by omega
   have k1:(k:Int) < 16:=by omega
   have k2:(k:Int) < 176:=by omega
   have cA:wr.cell? ⟨kb,k,none⟩=some (.int .u8 ((kw key k:Nat):Int)):=(HA.out.cell k).trans (HK0.out k hlt);have cW:wr.cell? ⟨wb,k,none⟩=some (.int .u8 0):=(HC.out.cell k).trans ((HAT.out k k (by omega)).trans (by rw[if_neg (by omega)];rfl));have fW:=HC.out.frozen k;have HSk:=zh (HSET.out k (by omega));generalize kw key k=x at cA HSk;go_wp2;go_roundw
   case rel=>
    refine⟨k+1,by omega,by go_num,HA.out.far (p:=⟨wb,k,none⟩) (by have:=HS0.out;show ¬kb=wb;omega) _,HB.out.far (p:=⟨wb,k,none⟩) (by have:=HS0.out;show ¬ob=wb;omega) _,?_,HBW.out.setCell (p:=⟨wb,k,none⟩) (by have:=HS0.out;show w.heap.size<=wb;omega) _⟩;rw[<-HSk.out]
    exact HC.out.set_ k _
   case measure=>simp[intOf];omega
  ·have hk16:k=16:=by omega
   have n16:¬((k:Int) < 16):=by omega
   rw[hk16]at HC;clear hk16 hlt hk;go_wp2;clear n16;go_loopw [5,6] (fun v5 v6 wr=>∃i:Nat,4<=i/\i<=44/\v6=.int .i64 i/\v5=.int .u8 ((pw2 ((i-1) / 4):Nat):Int)/\Blk wr ob 144 (E 0)/\Blk wr wb 168 (E (4*i))/\Below w.heap.size w wr) (fun _ v6 _=>44-(intOf v6).toNat)
   case atStart=>exact⟨4,by omega,by omega,rfl,rfl,HB.out,HC.out,HBW.out⟩
   case round=>
    clear HA HB HC HBW;obtain⟨i,hi4,hi44,rfl,rfl,hB,hC,hb⟩:=hrel;have HB:=zh hB;have HC:=zh hC;have HBW:=zh hb;clear hB hC hb;have i0:(4:Int)<=(i:Int):=by omega
    have i9:(i:Int)<=44:=by omega
    by_cases hlt:i < 44
    ·have i1:(i:Int) < 44:=by omega
     have cW:=fun(c:Nat) (hc:c < 4*i)=>show wr.cell? ⟨wb,c,none⟩=some (.int .u8 ((kw key c:Nat):Int))from (HC.out.cell c).trans ((HAT.out (4*i) c (by omega)).trans (by rw[if_pos hc]))
     obtain⟨a,ha⟩:∃a,a=4*i-4:=⟨_,rfl⟩
     have c0:=cW a (by omega);have c1:=cW (a+1) (by omega);have c2:=cW (a+2) (by omega);have c3:=cW (a+3) (by omega);have HX:=zh (show kw key a < 256/\kw key (a+1) < 256/\kw key (a+2) < 256/\kw key (a+3) < 256 from ⟨HKL.out _,HKL.out _,HKL.out _,HKL.out _⟩);have HTW:=zh (show tW key i 0=(if i % 4=0 then sbx (kw key (a+1)) ^^^ pw2 (i / 4-1) else kw key a)/\tW key i 1=(if i % 4=0 then sbx (kw key (a+2)) else kw key (a+1))/\tW key i 2=(if i % 4=0 then sbx (kw key (a+3)) else kw key (a+2))/\tW key i 3=(if i % 4=0 then sbx (kw key a) else kw key (a+3))from by
      unfold tW;rw[ha,show 4*i-4+1=4*i-3 by omega];by_cases h0:i % 4=0
      ·simp[h0]
      ·simp[h0])
     obtain⟨x0,hx0⟩:∃x,x=kw key a:=⟨_,rfl⟩
     obtain⟨x1,hx1⟩:∃x,x=kw key (a+1):=⟨_,rfl⟩
     obtain⟨x2,hx2⟩:∃x,x=kw key (a+2):=⟨_,rfl⟩
     obtain⟨x3,hx3⟩:∃x,x=kw key (a+3):=⟨_,rfl⟩
     rw[<-hx0]at c0 HX HTW;rw[<-hx1]at c1 HX HTW;rw[<-hx2]at c2 HX HTW;rw[<-hx3]at c3 HX HTW;have e0:(4*(i:Int)-4)=(a:Int):=by omega
     have e1:(4*(i:Int)-3)=((a+1:Nat):Int):=by omega
     have e2:(4*(i:Int)-2)=((a+2:Nat):Int):=by omega
     have e3:(4*(i:Int)-1)=((a+3:Nat):Int):=by omega
     have a0:(a:Int)+3 < 176:=by omega
     have hwl:wb < wr.heap.size:=HC.out.lt;have HAE:=zh ha;clear cW hx0 hx1 hx2 hx3 ha;go_upto_region 10 with (fail)
     go_region;obtain⟨lb,hlb⟩:∃lb,lb=wr.heap.size:=⟨_,rfl⟩
     have HLB:=zh (show wb < lb/\ob < wb/\w.heap.size<=wb by have:=HC.out.lt;have:=HS0.out;omega);refine then_let (fun V=>Blk V lb 169 #[.int .u8 ((x0:Nat):Int),.int .u8 ((x1:Nat):Int),.int .u8 ((x2:Nat):Int),.int .u8 ((x3:Nat):Int)]/\Blk V ob 144 (E 0)/\Blk V wb 168 (E (4*i))/\Below w.heap.size w V) ⟨by rw[hlb];exact(Blk.new _ _ _).drew,(HB.out.alloc _).drew,(HC.out.alloc _).drew,(HBW.out.trans ((Below.refl wr.heap.size wr).alloc (Nat.le_refl _) _ |>.mono HBW.out.size)).drew⟩ ?_;rintro V ⟨b1,b2,b3,b4⟩;have D1:=zh b1;have D2:=zh b2;have D3:=zh b3;have D4:=zh b4;rw[<-hlb];clear b1 b2 b3 b4 hlb c0 c1 c2 c3 e0 e1 e2 e3 a0 hwl HB HC HBW;rcases Decidable.em (i % 4=0)with h0 | h0
     ·have t0:((i:Int) % 4 == 0)=true:=by rw[beq_iff_eq];omega
      have HTY:=HTW.out;rw[if_pos h0,if_pos h0,if_pos h0,if_pos h0]at HTY;have HSB:=zh (fun x hx V=>rsbox_ok x hx V);have HXB:=HX.out;obtain⟨pw,hpw⟩:∃pw,pw=pw2 ((i-1) / 4):=⟨_,rfl⟩
      have hpl:pw < 256:=by rw[hpw];exact pw2_lt _
      have hpe:pw2 (i / 4-1)=pw:=by rw[hpw];congr 1;omega
      rw[hpe]at HTY;have HMU:Hid (∀V,Calls Tryz.prog 91 #[.int .u8 pw,.int .u8 2] V fun e w'=>e=.returned (.int .u8 (rMul pw 2:Nat))/\V=w'):=zh (fun V=>rmul_ok pw 2 hpl (by decide) V);rw[show rMul pw 2=pw2 (i / 4)from by rw[hpw,pw2_next];congr 1;omega]at HMU;obtain⟨z1,hz1⟩:∃z,z=sbx x1:=⟨_,rfl⟩
      have hz1l:z1 < 256:=by rw[hz1];exact boxK_lt 255 _
      have xx:=bx z1 pw _ hz1l hpl rfl;obtain⟨y0,hy0⟩:∃y,y=z1 ^^^ pw:=⟨_,rfl⟩
      obtain⟨y1,hy1⟩:∃y,y=sbx x2:=⟨_,rfl⟩
      obtain⟨y2,hy2⟩:∃y,y=sbx x3:=⟨_,rfl⟩
      obtain⟨y3,hy3⟩:∃y,y=sbx x0:=⟨_,rfl⟩
      have HS1:=zh (HSB.out x1 HXB.2.1);have HS2:=zh (HSB.out x2 HXB.2.2.1);have HS3:=zh (HSB.out x3 HXB.2.2.2);have HS4:=zh (HSB.out x0 HXB.1);rw[<-hz1]at HTY HS1;rw[<-hy0]at HTY xx;rw[<-hy1]at HTY HS2;rw[<-hy2]at HTY HS3;rw[<-hy3]at HTY HS4;have HY:=zh HTY;rw[<-hpw];have HLC:=zh (show ∀W',Below V.heap.size V W'->W'.cell? ⟨lb,0,none⟩=some (.int .u8 (x0:Int))/\W'.cell? ⟨lb,1,none⟩=some (.int .u8 (x1:Int))/\W'.cell? ⟨lb,2,none⟩=some (.int .u8 (x2:Int))/\W'.cell? ⟨lb,3,none⟩=some (.int .u8 (x3:Int))from fun W' hW=>⟨(D1.out.below hW D1.out.lt).cell 0,(D1.out.below hW D1.out.lt).cell 1,(D1.out.below hW D1.out.lt).cell 2,(D1.out.below hW D1.out.lt).cell 3⟩);clear HTY hpe hpw hpl hz1 hz1l hy0 hy1 hy2 hy3 HXB h0;go_upto_region 12 with (fail)
      refine wp_region_L (L:=15) (S:=fun w'=>Below V.heap.size V w') (by kernel_rfl) ((Below.refl _ V).drew) (fun hHeld=>?_);obtain⟨u0,hu0⟩:∃u0,u0=V.drew:=⟨_,rfl⟩
      rw[<-hu0];rw[<-hu0]at hHeld;clear hu0;refine tkL (i:=0) (oi:=⟨some 48,_,_,_,_,_⟩) (v:=.pointer (some ⟨lb,1,none⟩)) rfl (Or.inl ⟨by rfl,fun W hW=>(by go_simp)⟩) (by assumption) ?_;refine tkL (i:=1) (oi:=⟨some 49,_,_,_,_,_⟩) (v:=.int .u8 (x1:Int)) rfl (Or.inl ⟨by rfl,fun W hW=>(by have:=(HLC.out W hW).2.1;go_simp)⟩) (by assumption) ?_;refine tkL (i:=3) (oi:=⟨some 51,_,_,_,_,_⟩) (v:=.int .u8 (pw:Int)) rfl (Or.inl ⟨by rfl,fun W hW=>(by rfl)⟩) (by assumption) ?_;refine tkL (i:=5) (oi:=⟨some 53,_,_,_,_,_⟩) (v:=.pointer (some ⟨lb,2,none⟩)) rfl (Or.inl ⟨by rfl,fun W hW=>(by go_simp)⟩) (by assumption) ?_;refine tkL (i:=6) (oi:=⟨some 54,_,_,_,_,_⟩) (v:=.int .u8 (x2:Int)) rfl (Or.inl ⟨by rfl,fun W hW=>(by have:=(HLC.out W hW).2.2.1;go_simp)⟩) (by assumption) ?_;refine tkL (i:=8) (oi:=⟨some 56,_,_,_,_,_⟩) (v:=.pointer (some ⟨lb,3,none⟩)) rfl (Or.inl ⟨by rfl,fun W hW=>(by go_simp)⟩) (by assumption) ?_;refine tkL (i:=9) (oi:=⟨some 57,_,_,_,_,_⟩) (v:=.int .u8 (x3:Int)) rfl (Or.inl ⟨by rfl,fun W hW=>(by have:=(HLC.out W hW).2.2.2;go_simp)⟩) (by assumption) ?_;refine tkL (i:=11) (oi:=⟨some 59,_,_,_,_,_⟩) (v:=.pointer (some ⟨lb,0,none⟩)) rfl (Or.inl ⟨by rfl,fun W hW=>(by go_simp)⟩) (by assumption) ?_;refine tkL (i:=12) (oi:=⟨some 60,_,_,_,_,_⟩) (v:=.int .u8 (x0:Int)) rfl (Or.inl ⟨by rfl,fun W hW=>(by have:=(HLC.out W hW).1;go_simp)⟩) (by assumption) ?_;refine wpAnyL_one (i:=2) (o:=⟨some 50,_,_,_,_,_⟩) (by kernel_rfl) rfl (fun K hK=>?_);rw[if_pos (by rfl)];go_simp;refine(HS1.out _).mono ?_;rintro e u1 ⟨rfl,d1,hd⟩;dsimp only;have hE:Below V.heap.size V u1:=by rw[hd];exact below_drewN hHeld _
      refine hK.out _ _ hE (fun hHeld=>?_);clear hK K hE hd
      try simp only[Act.put,qa,qb,qc]
      refine tkL (i:=4) (oi:=⟨some 52,_,_,_,_,_⟩) (v:=.int .u8 (y0:Int)) rfl (Or.inl ⟨by rfl,fun W hW=>(by go_simp)⟩) (by assumption) ?_;refine wpAnyL_one (i:=7) (o:=⟨some 55,_,_,_,_,_⟩) (by kernel_rfl) rfl (fun K hK=>?_);rw[if_pos (by rfl)];go_simp;refine(HS2.out _).mono ?_;rintro e u2 ⟨rfl,d2,hd⟩;dsimp only;have hE:Below V.heap.size V u2:=by rw[hd];exact below_drewN hHeld _
      refine hK.out _ _ hE (fun hHeld=>?_);clear hK K hE hd
      try simp only[Act.put,qa,qb,qc]
      refine wpAnyL_one (i:=10) (o:=⟨some 58,_,_,_,_,_⟩) (by kernel_rfl) rfl (fun K hK=>?_);rw[if_pos (by rfl)];go_simp;refine(HS3.out _).mono ?_;rintro e u3 ⟨rfl,d3,hd⟩;dsimp only;have hE:Below V.heap.size V u3:=by rw[hd];exact below_drewN hHeld _
      refine hK.out _ _ hE (fun hHeld=>?_);clear hK K hE hd
      try simp only[Act.put,qa,qb,qc]
      refine wpAnyL_one (i:=13) (o:=⟨some 61,_,_,_,_,_⟩) (by kernel_rfl) rfl (fun K hK=>?_);rw[if_pos (by rfl)];go_simp;refine(HS4.out _).mono ?_;rintro e u4 ⟨rfl,d4,hd⟩;dsimp only;have hE:Below V.heap.size V u4:=by rw[hd];exact below_drewN hHeld _
      refine hK.out _ _ hE (fun hHeld=>?_);clear hK K hE hd
      try simp only[Act.put,qa,qb,qc]
      refine tkL (i:=14) (oi:=⟨some 62,_,_,_,_,_⟩) (v:=.agg #[.int .u8 (y0:Int),.int .u8 (y1:Int),.int .u8 (y2:Int),.int .u8 (y3:Int)]) rfl (Or.inl ⟨by rfl,fun W hW=>(by go_simp)⟩) (by assumption) ?_;refine wpAnyL_last (o:=⟨none,_,_,_,_,_⟩) (by kernel_rfl) (by kernel_rfl) rfl (fun K hK=>?_);rw[if_pos (by rfl)];have hL5:=D1.out.below hHeld D1.out.lt;refine wp_store_row _ _ _ rfl lb #[.int .u8 (y0:Int),.int .u8 (y1:Int),.int .u8 (y2:Int),.int .u8 (y3:Int)] rfl rfl 169 _ hL5 (by kernel_rfl) rfl (by simp[Value.oneCell']) ?_;have hG1:=setRow_heap _ lb _ #[.int .u8 (y0:Int),.int .u8 (y1:Int),.int .u8 (y2:Int),.int .u8 (y3:Int)] 169 (0,0) hL5;have hG2:Blk (u4.setRow lb #[.int .u8 (y0:Int),.int .u8 (y1:Int),.int .u8 (y2:Int),.int .u8 (y3:Int)]) ob 144 (E 0):=(setRow_other _ _ _ _ (by have:=HLB.out;omega)).trans (D2.out.below hHeld D2.out.lt);have hG3:Blk (u4.setRow lb #[.int .u8 (y0:Int),.int .u8 (y1:Int),.int .u8 (y2:Int),.int .u8 (y3:Int)]) wb 168 (E (4*i)):=(setRow_other _ _ _ _ (by have:=HLB.out;omega)).trans (D3.out.below hHeld D3.out.lt);have hG4:Below w.heap.size w (u4.setRow lb #[.int .u8 (y0:Int),.int .u8 (y1:Int),.int .u8 (y2:Int),.int .u8 (y3:Int)]):=belowRow (D4.out.trans (hHeld.mono D4.out.size)) (by have:=HLB.out;omega) _;obtain⟨X,hX⟩:∃X,X=(u4.setRow lb #[.int .u8 (y0:Int),.int .u8 (y1:Int),.int .u8 (y2:Int),.int .u8 (y3:Int)]):=⟨_,rfl⟩
      rw[<-hX]at hG1 hG2 hG3 hG4 ⊢;have G1:=zh hG1;have G2:=zh hG2;have G3:=zh hG3;have G4:=zh hG4;refine hK.out _ _ ?_;clear hK K hHeld hL5 hX hG1 hG2 hG3 hG4
      try simp only[Act.put]
      go_upto_region 14 with (go_at_call 91;refine(HMU.out _).mono ?_;rintro e w9 ⟨rfl,rfl⟩)
      have F1:=G1;have F2:=G2;have F3:=G3;have F4:=G4;clear xx t0 G1 G2 G3 G4;have HTN:=zh (show ∀k,k < 4->(#[.int .u8 ((y0:Nat):Int),.int .u8 ((y1:Nat):Int),.int .u8 ((y2:Nat):Int),.int .u8 ((y3:Nat):Int)]:Array Value)[k]? = some (.int .u8 ((tW key i k:Nat):Int))from fun k hk=>by
       rcases (by omega:k=0\/k=1\/k=2\/k=3)with rfl | rfl | rfl | rfl
       ·rw[HY.out.1];rfl
       ·rw[HY.out.2.1];rfl
       ·rw[HY.out.2.2.1];rfl
       ·rw[HY.out.2.2.2];rfl)
      obtain⟨TA,hTA⟩:∃TA:Array Value,TA=#[.int .u8 ((y0:Nat):Int),.int .u8 ((y1:Nat):Int),.int .u8 ((y2:Nat):Int),.int .u8 ((y3:Nat):Int)]:=⟨_,rfl⟩
      rw[<-hTA]at F1 HTN;clear hTA;go_wp2;go_loopw [8] (fun v8 wr=>∃k:Nat,k<=4/\v8=.int .i64 k/\Blk wr lb 169 TA/\Blk wr ob 144 (E 0)/\Blk wr wb 168 (E (4*i+k))/\Below w.heap.size w wr) (fun v8 _=>4-(intOf v8).toNat)
      case atStart=>exact⟨0,by omega,rfl,F1.out,F2.out,F3.out,F4.out⟩
      case round=>
       clear F1 F2 F3 F4;obtain⟨k,hk,rfl,hL,hB,hC,hb⟩:=hrel;have HL:=zh hL;have HB:=zh hB;have HC:=zh hC;have HBW:=zh hb;clear hL hB hC hb;by_cases hlk:k < 4
       ·have k0:(0:Int)<=(k:Int):=by omega
        have k1:(k:Int) < 4:=by omega
        obtain⟨q,hq⟩:∃q,q=4*i+k:=⟨_,rfl⟩
        obtain⟨p,hp⟩:∃p,p=4*i+k-16:=⟨_,rfl⟩
        have cP:wr.cell? ⟨wb,p,none⟩=some (.int .u8 ((kw key p:Nat):Int)):=(HC.out.cell p).trans ((HAT.out (4*i+k) p (by omega)).trans (by rw[if_pos (by omega)]));have cT:wr.cell? ⟨lb,k,none⟩=some (.int .u8 ((tW key i k:Nat):Int)):=(HL.out.cell k).trans (HTN.out k hlk);have cQ:wr.cell? ⟨wb,q,none⟩=some (.int .u8 0):=(HC.out.cell q).trans ((HAT.out (4*i+k) q (by omega)).trans (by rw[if_neg (by omega)];rfl));have fQ:=HC.out.frozen q;have x1:=bx (kw key p) (tW key i k) (kw key q) (HKL.out _) (HTL.out _ _) (by rw[hq,hp];exact(HST.out i k hi4 hlk).symm);have HSk:=zh (show(E (4*i+k)).setIfInBounds q (.int .u8 ((kw key q:Nat):Int))=E (4*i+(k+1))from by rw[hq,<-Nat.add_assoc];exact HSET.out (4*i+k) (by omega));have eq:(4*(i:Int)+(k:Int))=(q:Int):=by omega
        have ep:((q:Int)-16)=(p:Int):=by omega
        have q1:(q:Int) < 176:=by omega
        have p1:(p:Int) < 176:=by omega
        have i4:4*(i:Int)<=172:=by omega
        generalize kw key p=xp at cP x1;generalize tW key i k=xt at cT x1;generalize kw key q=xq at x1 HSk;clear hq hp;go_upto_region 17 with (fail)
        go_region;clear eq ep q1 p1 cP cT cQ fQ;go_wp2;go_roundw
        case rel=>
         refine⟨k+1,by omega,by go_num,(HL.out.far (p:=⟨wb,q,none⟩) (by have:=HLB.out;show ¬lb=wb;omega) _).drew,(HB.out.far (p:=⟨wb,q,none⟩) (by have:=HLB.out;show ¬ob=wb;omega) _).drew,?_,(HBW.out.setCell (p:=⟨wb,q,none⟩) HLB.out.2.2 _).drew⟩;rw[<-HSk.out]
         exact(HC.out.set_ q _).drew
        case measure=>simp[intOf];omega
       ·obtain rfl:k=4:=by omega
        have HPI:=zh (show pw2 (i / 4)=pw2 ((i+1-1) / 4)from by rw[Nat.add_sub_cancel]);go_wp2;go_roundw
        case rel=>exact⟨i+1,by omega,by omega,by go_num,by rw[<-HPI.out],HB.out,by rw[Nat.mul_add,Nat.mul_one];exact HC.out,HBW.out⟩
        case measure=>simp[intOf];omega
     ·have t0:((i:Int) % 4 == 0)=false:=by rw[beq_eq_false_iff_ne];omega
      have HTY:=HTW.out;rw[if_neg h0,if_neg h0,if_neg h0,if_neg h0]at HTY;obtain⟨y0,hy0⟩:∃y,y=x0:=⟨_,rfl⟩
      obtain⟨y1,hy1⟩:∃y,y=x1:=⟨_,rfl⟩
      obtain⟨y2,hy2⟩:∃y,y=x2:=⟨_,rfl⟩
      obtain⟨y3,hy3⟩:∃y,y=x3:=⟨_,rfl⟩
      rw[<-hy0,<-hy1,<-hy2,<-hy3]at HTY;rw[<-hy0,<-hy1,<-hy2,<-hy3]at D1;have HY:=zh HTY;have h4:(i-1) / 4=(i+1-1) / 4:=by omega
      have HI4:=zh h4;obtain⟨pw,hpw⟩:∃pw,pw=pw2 ((i-1) / 4):=⟨_,rfl⟩
      have HPW:=zh hpw;rw[<-hpw];have F1:=D1;have F2:=D2;have F3:=D3;have F4:=D4;clear HTY hy0 hy1 hy2 hy3 h4 hpw h0 D1 D2 D3 D4;go_upto_region 14 with (fail)
      clear t0;have HTN:=zh (show ∀k,k < 4->(#[.int .u8 ((y0:Nat):Int),.int .u8 ((y1:Nat):Int),.int .u8 ((y2:Nat):Int),.int .u8 ((y3:Nat):Int)]:Array Value)[k]? = some (.int .u8 ((tW key i k:Nat):Int))from fun k hk=>by
       rcases (by omega:k=0\/k=1\/k=2\/k=3)with rfl | rfl | rfl | rfl
       ·rw[HY.out.1];rfl
       ·rw[HY.out.2.1];rfl
       ·rw[HY.out.2.2.1];rfl
       ·rw[HY.out.2.2.2];rfl)
      obtain⟨TA,hTA⟩:∃TA:Array Value,TA=#[.int .u8 ((y0:Nat):Int),.int .u8 ((y1:Nat):Int),.int .u8 ((y2:Nat):Int),.int .u8 ((y3:Nat):Int)]:=⟨_,rfl⟩
      rw[<-hTA]at F1 HTN;clear hTA;go_wp2;go_loopw [8] (fun v8 wr=>∃k:Nat,k<=4/\v8=.int .i64 k/\Blk wr lb 169 TA/\Blk wr ob 144 (E 0)/\Blk wr wb 168 (E (4*i+k))/\Below w.heap.size w wr) (fun v8 _=>4-(intOf v8).toNat)
      case atStart=>exact⟨0,by omega,rfl,F1.out,F2.out,F3.out,F4.out⟩
      case round=>
       clear F1 F2 F3 F4;obtain⟨k,hk,rfl,hL,hB,hC,hb⟩:=hrel;have HL:=zh hL;have HB:=zh hB;have HC:=zh hC;have HBW:=zh hb;clear hL hB hC hb;by_cases hlk:k < 4
       ·have k0:(0:Int)<=(k:Int):=by omega
        have k1:(k:Int) < 4:=by omega
        obtain⟨q,hq⟩:∃q,q=4*i+k:=⟨_,rfl⟩
        obtain⟨p,hp⟩:∃p,p=4*i+k-16:=⟨_,rfl⟩
        have cP:wr.cell? ⟨wb,p,none⟩=some (.int .u8 ((kw key p:Nat):Int)):=(HC.out.cell p).trans ((HAT.out (4*i+k) p (by omega)).trans (by rw[if_pos (by omega)]));have cT:wr.cell? ⟨lb,k,none⟩=some (.int .u8 ((tW key i k:Nat):Int)):=(HL.out.cell k).trans (HTN.out k hlk);have cQ:wr.cell? ⟨wb,q,none⟩=some (.int .u8 0):=(HC.out.cell q).trans ((HAT.out (4*i+k) q (by omega)).trans (by rw[if_neg (by omega)];rfl));have fQ:=HC.out.frozen q;have x1:=bx (kw key p) (tW key i k) (kw key q) (HKL.out _) (HTL.out _ _) (by rw[hq,hp];exact(HST.out i k hi4 hlk).symm);have HSk:=zh (show(E (4*i+k)).setIfInBounds q (.int .u8 ((kw key q:Nat):Int))=E (4*i+(k+1))from by rw[hq,<-Nat.add_assoc];exact HSET.out (4*i+k) (by omega));have eq:(4*(i:Int)+(k:Int))=(q:Int):=by omega
        have ep:((q:Int)-16)=(p:Int):=by omega
        have q1:(q:Int) < 176:=by omega
        have p1:(p:Int) < 176:=by omega
        have i4:4*(i:Int)<=172:=by omega
        generalize kw key p=xp at cP x1;generalize tW key i k=xt at cT x1;generalize kw key q=xq at x1 HSk;clear hq hp;go_upto_region 17 with (fail)
        go_region;clear eq ep q1 p1 cP cT cQ fQ;go_wp2;go_roundw
        case rel=>
         refine⟨k+1,by omega,by go_num,(HL.out.far (p:=⟨wb,q,none⟩) (by have:=HLB.out;show ¬lb=wb;omega) _).drew,(HB.out.far (p:=⟨wb,q,none⟩) (by have:=HLB.out;show ¬ob=wb;omega) _).drew,?_,(HBW.out.setCell (p:=⟨wb,q,none⟩) HLB.out.2.2 _).drew⟩;rw[<-HSk.out]
         exact(HC.out.set_ q _).drew
        case measure=>simp[intOf];omega
       ·obtain rfl:k=4:=by omega
        have HPI:=zh (show pw=pw2 ((i+1-1) / 4)from by rw[HPW.out,HI4.out]);go_wp2;go_roundw
        case rel=>exact⟨i+1,by omega,by omega,by go_num,by rw[<-HPI.out],HB.out,by rw[Nat.mul_add,Nat.mul_one];exact HC.out,HBW.out⟩
        case measure=>simp[intOf];omega
    ·obtain rfl:i=44:=by omega
     clear i0 i9 hlt hi4 hi44;go_upto_region 19 with (fail)
     rw[HZ3.out];obtain⟨vb,hvb⟩:∃vb,vb=wr.heap.size:=⟨_,rfl⟩
     have HVB:=zh (show wb < vb/\ob < vb/\w.heap.size<=vb/\w.heap.size<=ob by have:=HC.out.lt;have:=HS0.out;omega);refine wp_let (fun V=>Blk V vb 144 (E 0)/\Blk V ob 144 (E 0)/\Blk V wb 168 (E 176)/\Below w.heap.size w V) ⟨by rw[hvb];exact blk_atA _ _ _ _ rfl,HB.out.alloc _,HC.out.alloc _,HBW.out.trans ((Below.refl wr.heap.size wr).alloc (Nat.le_refl _) _ |>.mono HBW.out.size)⟩ ?_;clear HB HC HBW;rintro V ⟨b1,b4,b2,b3⟩;have HB:=zh b1;have HR:=zh b4;have HC:=zh b2;have HBW:=zh b3;rw[<-hvb];clear b1 b2 b3 b4 hvb;go_wp2;go_loopw [10] (fun v9 wr=>∃j:Nat,j<=176/\v9=.int .i64 j/\Blk wr vb 144 (E j)/\Blk wr ob 144 (E 0)/\Blk wr wb 168 (E 176)/\Below w.heap.size w wr) (fun v9 _=>176-(intOf v9).toNat)
     case atStart=>exact⟨0,by omega,rfl,HB.out,HR.out,HC.out,HBW.out⟩
     case round=>
      clear HB HC HBW HR;obtain⟨j,hj,rfl,hB,hR,hC,hb⟩:=hrel;have HR:=zh hR;have HB:=zh hB;have HC:=zh hC;have HBW:=zh hb;clear hB hR hC hb;have j0:(0:Int)<=(j:Int):=by omega
      by_cases hlt:j < 176
      ·have j1:(j:Int) < 176:=by omega
       have cW:wr.cell? ⟨wb,j,none⟩=some (.int .u8 ((kw key j:Nat):Int)):=(HC.out.cell j).trans ((HAT.out 176 j hlt).trans (by rw[if_pos hlt]));have cO:wr.cell? ⟨vb,j,none⟩=some (.int .u8 0):=(HB.out.cell j).trans ((HAT.out j j hlt).trans (by rw[if_neg (by omega)];rfl));have fO:=HB.out.frozen j;have HSk:=zh (HSET.out j hlt);generalize kw key j=x at cW HSk;obtain⟨q,hq⟩:∃q,q=j / 16:=⟨_,rfl⟩
       obtain⟨r,hr⟩:∃r,r=j % 16:=⟨_,rfl⟩
       have eq:(j:Int) / 16=(q:Int):=by omega
       have er:(j:Int) % 16=(r:Int):=by omega
       have q0:(0:Int)<=(q:Int):=by omega
       have r0:(0:Int)<=(r:Int):=by omega
       have q1:(q:Int) < 11:=by omega
       have r1:(r:Int) < 16:=by omega
       have ej:q*16+r=j:=by omega
       have ej2:16*q+r=j:=by omega
       clear hq hr;go_upto_region 22 with (fail)
       go_region;go_wp2;go_roundw
       case rel=>
        refine⟨j+1,by omega,by go_num,?_,(HR.out.far (p:=⟨vb,j,none⟩) (by have:=HVB.out;show ¬ob=vb;omega) _).drew,(HC.out.far (p:=⟨vb,j,none⟩) (by have:=HVB.out;show ¬wb=vb;omega) _).drew,(HBW.out.setCell (p:=⟨vb,j,none⟩) (by have:=HVB.out;show w.heap.size<=vb;omega) _).drew⟩;rw[<-HSk.out]
        exact(HB.out.set_ j _).drew
       case measure=>simp[intOf];omega
      ·obtain rfl:j=176:=by omega
       clear j0 hj hlt;go_upto_region 23 with (fail)
       have HX16:=zh (show(Tryz.prog.info? 144).map (·.size)=some (E 176).size by rw[HSZ.out];kernel_rfl);have HO16:=zh (HON.out 176);have HZZ:=zh (show(E 0).size=(E 176).size by rw[HSZ.out,HSZ.out]);obtain⟨X,hX⟩:∃X,X=E 176:=⟨_,rfl⟩
       rw[<-hX]at HB HX16 HO16 HZZ;have HXE:=zh hX;clear hX;go_wp2_with (first
        | (refine wpList_load_row rfl _ _ rfl vb rfl 144 X (0,0) _ HB.out Tryz.underlying144 rfl HX16.out ?_)
        | (refine wpList_store_row rfl _ _ _ rfl ob X rfl rfl 144 _ HR.out HX16.out HZZ.out HO16.out ?_))
       refine bodyPost_ret (v:=.agg X) (results_cell_row (g:=ob) (t:=144) (fr:=(0,0)) Tryz.results88 _ _ X _ rfl (setRow_heap wr ob _ X 144 (0,0) HR.out) Tryz.underlying144 rfl HX16.out) rfl ⟨by rw[HXE.out],?_⟩
       exact belowRow HBW.out (by have:=HVB.out;omega) _
end Go.Proofs.YtnadmdadcpemnaaGreat

import Derived.Test.YtbfpdnnphdagjaaGreatMN1y
import Derived.Test.YtbfpdnnphdagjaaGreatMTJy
import Derived.Deep.DeepCutAuto
import Derived.Deep.CutRange
import Derived.Deep.CutBlock
import Derived.Test.YtbfpdnnphdagjaaGreatB1y
set_option maxRecDepth 100000
set_option maxHeartbeats 6400000
set_option linter.unusedVariables false
set_option linter.unusedSimpArgs false
namespace Go.Proofs.YtbfpdnnphdagjaaGreat
open Go.RowKit
theorem lg {k m:Nat} {used:List (Array Value)} (h:dB k used) (hm:m<=k):dB k (used++[aj (aY m)]):=by
 obtain⟨U,h1,h2⟩:=h;refine⟨U++[aY m],by rw[h1,List.map_append];rfl,fun f hf=>?_⟩;rcases List.mem_append.1 hf with hf | hf
 ·exact h2 f hf
 ·exact⟨m,hm,List.mem_singleton.1 hf⟩
theorem j9 {k m:Nat} (hm:m<=k):dB k [aj (aY m)]:=⟨[aY m],rfl,fun f hf=>⟨m,hm,List.mem_singleton.1 hf⟩⟩
structure iW (pn:Nat->Nat) (z:Nat->Nat->Int) (x:cR) (f c:Nat->Int) (K:Nat) (s:TS):Prop where
 t:DT (x.cf.keys f c) pn z x.N x.q x.Pd (fun _=>true) s
 gt:dB K s.used
 co:eo s.comp
 kt:aj f∈s.used
structure iU (pn:Nat->Nat) (z:Nat->Nat->Int) (x:cR) (f c:Nat->Int) (K M:Nat) (r:RS):Prop where
 dr:DR (x.cf.keys f c) pn z x.S x.d r
 dup:r.dup<=M
 gr:dB K r.used
 kr:aj f∈r.used
section
variable {pn:Nat->Nat} {z:Nat->Nat->Int} {x:cR} {K K' M m m':Nat}
theorem iW.rekey (h:aG pn z K x M) (hm:m<=K') (hK:K<=K'):iW pn z x (aY m) (aY m') K' (x.ts.rekeyed (aY m) (aY m')):=
 ⟨h.t.rekey (fun j _=>f9 m j) (fun j _=>f9 m' j),lg (kO h.gt hK) hm,nC,List.mem_append.2 (.inr (List.mem_singleton.2 rfl))⟩
theorem iW.moved (h:aG pn z K x M) (hm:m<=K'):iW pn z x (aY m) (aY m') K' (x.ts.moved (x.cf.keys (aY m) (aY m'))):=
 ⟨h.t.moved (oq (fun j _=>f9 m j) (fun j _=>f9 m' j)) h.val,j9 hm,nC,List.mem_singleton.2 rfl⟩
theorem iU.rekey (h:aG pn z K x M) (hm:m<=K') (hK:K<=K'):iU pn z x (aY m) (aY m') K' M (x.rs.rekeyed (aY m) (aY m')):=
 ⟨h.r.rekey _ _,h.dup,lg (kO h.gr hK) hm,List.mem_append.2 (.inr (List.mem_singleton.2 rfl))⟩
theorem iU.moved (h:aG pn z K x M) (hm:m<=K') (X:Obj):iU pn z x (aY m) (aY m') K' M (dU (x.cf.keys (aY m) (aY m')) X x.rs.deliver x.rs.next x.rs.L):=
 ⟨h.r.move _ X,Int.natCast_nonneg M,j9 hm,List.mem_singleton.2 rfl⟩
theorem aG.join (h:aG pn z K x M) {s:TS} {r:RS} (ht:iW pn z x (aY m) (aY m') K' s) (hr:iU pn z x (aY m) (aY m') K' M r):aG pn z K' { x with cf:=x.cf.keys (aY m) (aY m'),Rp:=fun _=>true,ts:=s,rs:=r } M:=
 h.rekey (fun j _=>f9 m j) (fun j _=>f9 m' j) ht.t hr.dr hr.dup ht.gt hr.gr ht.co ht.kt hr.kr
end
def k2 (a b c d:Int):Array Value:=#[.int .u8 a,.int .u8 b,.int .u8 99,.int .u8 0,.int .u8 0,.int .u8 0,.int .u8 0,.int .u8 0,.int .u8 0,.int .u8 0,.int .u8 0,.int .u8 0,.int .u8 0,.int .u8 0,.int .u8 0,.int .u8 0,.int .u8 c,.int .u8 d,.int .u8 99,.int .u8 0,.int .u8 0,.int .u8 0,.int .u8 0,.int .u8 0,.int .u8 0,.int .u8 0,.int .u8 0,.int .u8 0,.int .u8 0,.int .u8 0,.int .u8 0,.int .u8 0]
def kA (m:Nat):Int:=((m % 256:Nat):Int)
def kB (m:Nat):Int:=((m / 256 % 256:Nat):Int)
theorem sN (m m':Nat):∀j,j < 16->(k2 (kA m) (kB m) (kA m') (kB m'))[j]? = some (.int .u8 (aY m j)):=fun j hj=>by
 rcases (by omega:j=0\/j=1\/j=2\/j=3\/j=4\/j=5\/j=6\/j=7\/j=8\/j=9\/j=10\/j=11\/j=12\/j=13\/j=14\/j=15)with rfl | rfl | rfl | rfl | rfl | rfl | rfl | rfl | rfl | rfl | rfl | rfl | rfl | rfl | rfl | rfl<;>rfl
theorem sP (m m':Nat):∀j,j < 16->(k2 (kA m) (kB m) (kA m') (kB m'))[16+j]? = some (.int .u8 (aY m' j)):=fun j hj=>by
 rcases (by omega:j=0\/j=1\/j=2\/j=3\/j=4\/j=5\/j=6\/j=7\/j=8\/j=9\/j=10\/j=11\/j=12\/j=13\/j=14\/j=15)with rfl | rfl | rfl | rfl | rfl | rfl | rfl | rfl | rfl | rfl | rfl | rfl | rfl | rfl | rfl | rfl<;>rfl
theorem y8 (m:Nat):aj (aY m)=#[.int .u8 (kA m),.int .u8 (kB m),.int .u8 99,.int .u8 0,.int .u8 0,.int .u8 0,.int .u8 0,.int .u8 0,.int .u8 0,.int .u8 0,.int .u8 0,.int .u8 0,.int .u8 0,.int .u8 0,.int .u8 0,.int .u8 0]:=xe m
theorem kz (C:ax) (f c:Nat->Int):bI (bI C.arr 2 (aj f).toList) 18 (aj c).toList=(C.keys f c).arr:=by
 have l1:(aj f).toList.length=16:=rfl;have l2:(aj c).toList.length=16:=rfl;have hs:=C.arr_size;apply Array.ext_getElem?;intro j;by_cases h1:18<=j/\j < 34
 ·have:=bH (aj c).toList 18 (bI C.arr 2 (aj f).toList) (j-18) (by omega) (by rw[aM,hs];omega);rw[show 18+(j-18)=j by omega]at this;rw[this,Array.getElem?_toList,bB c _ (by omega),ax.arr_at _ (by omega)];unfold ax.cell;rw[if_neg (by omega),if_neg (by omega),if_neg (by omega),if_pos (by omega)]
  rfl
 ·rw[bf _ _ _ _ (by omega)];by_cases h2:2<=j/\j < 18
  ·have:=bH (aj f).toList 2 C.arr (j-2) (by omega) (by rw[hs];omega);rw[show 2+(j-2)=j by omega]at this;rw[this,Array.getElem?_toList,bB f _ (by omega),ax.arr_at _ (by omega)];unfold ax.cell;rw[if_neg (by omega),if_neg (by omega),if_pos (by omega)]
   rfl
  ·rw[bf _ _ _ _ (by omega)];by_cases h3:j < 39
   ·rw[C.arr_at h3,ax.arr_at _ h3];unfold ax.cell ax.keys;by_cases h4:j < 18
    ·have:j=0\/j=1:=by omega
     rcases this with rfl | rfl<;>rfl
    ·have:j=34\/j=35\/j=36\/j=37\/j=38:=by omega
     rcases this with rfl | rfl | rfl | rfl | rfl<;>rfl
   ·rw[Array.getElem?_eq_none (by omega),Array.getElem?_eq_none (by rw[(C.keys f c).arr_size];omega)]
end Go.Proofs.YtbfpdnnphdagjaaGreat
namespace Go.Proofs.YtbfpdnnphdagjaaGreat
open Go.RowKit
attribute [local go_sem ↓] Go.wp_at_zero Go.wp_at_succ
theorem gD (A:Array Value) (h:A.size=32):(Tryz.prog.info? 46).map (·.size)=some A.size:=by rw[h];kernel_rfl
theorem xG (a b c d:Int):(k2 a b c d).all (·.oneCell')=true:=by kernel_rfl
def wW:Array Value:=#[.int .u8 0,.int .u8 0,.int .u8 0,.int .u8 0,.int .u8 0,.int .u8 0,.int .u8 0,.int .u8 0,.int .u8 0,.int .u8 0,.int .u8 0,.int .u8 0,.int .u8 0,.int .u8 0,.int .u8 0,.int .u8 0,.int .u8 0,.int .u8 0,.int .u8 0,.int .u8 0,.int .u8 0,.int .u8 0,.int .u8 0,.int .u8 0,.int .u8 0,.int .u8 0,.int .u8 0,.int .u8 0,.int .u8 0,.int .u8 0,.int .u8 0,.int .u8 0]
theorem gy {w0 w:World} {n:Nat} {A:Nat->Ag} (h:an w0 w n A) (hi:6 < n) {b:Nat} {arr:Array Value} (hA:A 6=bX b 39 arr) (m:Nat) (hm:m < 60000) (h8:arr[8]? = some (.int .i64 (m:Int))) :
  Calls Tryz.prog 12 #[.pointer (some ⟨b,0,none⟩)] w fun e w'=>e=.returned (.agg #[.int .u8 (kA (m+1)),.int .u8 (kB (m+1)),.int .u8 99,.int .u8 0,.int .u8 0,.int .u8 0,.int .u8 0,.int .u8 0,.int .u8 0,.int .u8 0,.int .u8 0,.int .u8 0,.int .u8 0,.int .u8 0,.int .u8 0,.int .u8 0])/\an w0 w' n (bW A 6 (bX b 39 (arr.setIfInBounds 8 (.int .i64 ((m+1:Nat):Int))))):=by
 rw[<-y8]
 exact an.key h hi hA hm h8
theorem an.setRowN {w0 w:World} {n:Nat} {A:Nat->Ag} (h:an w0 w n A) {i:Nat} (hi:i < n) {b:Nat} {t:TypeId} {cs:Array Value} (hA:A i=bX b t cs) (ds:Array Value):an w0 (w.setRow b ds) n (bW A i (bX b t ds)):=by
 obtain⟨O,h1,h2,_,h3⟩:=h.at_ hi;rw[hA]at h1;obtain⟨t1,t2⟩:=h1
 exact h3 _ (fun k=>k=b) _ ⟨t1.setRow,fun k=>Iff.rfl⟩ ((aa.setRow (F:=fun k=>k=b) (aa.of_below (Below.refl _ w)) rfl ds).mono (fun k hk=>(t2 k).2 hk)) (fun k hk=>.inl ((t2 k).2 hk))
theorem an.varN {w0 w:World} {n:Nat} {A:Nat->Ag} (h:an w0 w n A) (t:TypeId) (z cs:Array Value):an w0 ((w.alloc (.cells z t)).setRow w.heap.size cs) (n+1) (bW A n (bX w.heap.size t cs)):=by
 have h1:=an.setRowN (i:=n) (an.newBlk h t z) (by omega) (bL _ _ _) cs
 exact h1.congr (fun j hj=>by
  by_cases e:j=n
  ·subst e;rw[bL,bL]
  ·rw[cy _ _ e,cy _ _ e,cy _ _ e])
def cY.hf (L:cY) (g h:Nat) (s:TS) (r:RS) (K:Nat):cY:={ L with t0:=g,r1:=h,x0:={ L.x0 with ts:=s },x1:={ L.x1 with rs:=r },keys:=K }
def Bh (pn:Nat->Nat) (z0 z1:Nat->Nat->Int) (w0:World) (b:Nat) (L:cY) (K M k5:Nat) (KU KD:Array Value) (wx:World):Prop:=∃(g h:Nat) (s:TS) (r:RS),an w0 wx 9 (bW (bW (cY.ag (L.hf g h s r (K+4)) b) 7 (bX k5 46 KU)) 8 (bX (k5+1) 46 KD))/\iW pn z0 L.x0 (aY (K+1)) (aY (K+2)) (K+4) s/\iU pn z1 L.x1 (aY (K+3)) (aY (K+4)) (K+4) M r
def S9 (b k5:Nat) (KU KD:Array Value) (o:Nat) (SV:Array Value) (W:World):Prop:=ae W k5 46 KU/\ae W (k5+1) 46 KD/\W.rangeAt b o SV.toList
theorem oz {W:World} {b o g h:Nat} {t:TypeId} {arr:Array Value} (hb:ae W b t arr) (c0:arr[o]? = some (.pointer (some ⟨g,0,none⟩))) (c1:arr[o+1]? = some (.pointer (some ⟨h,0,none⟩))):W.rangeAt b o (ao g h).toList:=fun j y hy=>by
 have hj:j < 2:=(List.getElem?_eq_some_iff.1 hy).1;rw[hb.cell];rcases (by omega:j=0\/j=1)with rfl | rfl
 ·exact c0.trans hy
 ·exact c1.trans hy
theorem sh {w0 W:World} {n:Nat} {A:Nat->Ag} {b k5 o g h:Nat} {arr KU KD:Array Value} (hF:an w0 W n A) (hn:9<=n) (h6:A 6=bX b 39 arr) (h7:A 7=bX k5 46 KU) (h8:A 8=bX (k5+1) 46 KD) (c0:arr[o]? = some (.pointer (some ⟨g,0,none⟩))) (c1:arr[o+1]? = some (.pointer (some ⟨h,0,none⟩))):S9 b k5 KU KD o (ao g h) W:=
 ⟨an.blk (i:=7) hF (by omega) h7,an.blk (i:=8) hF (by omega) h8,oz (an.blk (i:=6) hF (by omega) h6) c0 c1⟩
theorem eH {W:World} {b:Nat} {t:TypeId} {cs:Array Value} (hb:ae W b t cs):W.rangeAt b 0 cs.toList:=fun j y hy=>by rw[hb.cell,Nat.zero_add,<-hy,Array.getElem?_toList]
theorem iR {W:World} {k o:Nat} {t:TypeId} {KK:Array Value} {f:Nat->Int} (hb:ae W k t KK) (h:∀j,j < 16->KK[o+j]? = some (.int .u8 (f j))):W.rangeAt k o (aj f).toList:=fun j y hy=>by
 have hj:j < 16:=(List.getElem?_eq_some_iff.1 hy).1;rw[hb.cell,h j hj,<-hy,Array.getElem?_toList,bB f j hj]
def S6 (b k7 k9:Nat) (TB RB SV:Array Value) (W:World):Prop:=ae W k7 25 TB/\ae W k9 25 RB/\W.rangeAt b 0 SV.toList
theorem AM {w0 W:World} {n:Nat} {A:Nat->Ag} {b k7 k9 g h:Nat} {arr TB RB:Array Value} (hF:an w0 W n A) (hn:11<=n) (h6:A 6=bX b 39 arr) (h9:A 9=bX k7 25 TB) (h10:A 10=bX k9 25 RB) (c0:arr[0]? = some (.pointer (some ⟨g,0,none⟩))) (c1:arr[1]? = some (.pointer (some ⟨h,0,none⟩))):S6 b k7 k9 TB RB (ao g h) W:=
 ⟨an.blk (i:=9) hF (by omega) h9,an.blk (i:=10) hF (by omega) h10,oz (an.blk (i:=6) hF (by omega) h6) c0 c1⟩
theorem xA {P:Program} {c:Code} {Q:Exit->Act->World->Prop} {a:Act} {w:World} (T:Act->Nat->Nat->Nat->Act) (F:Nat->Nat->Nat->Obj->World->Prop) (h:c.wp P (fun e a' w'=>e=.normal/\∃(sb g h:Nat) (X:Obj),a'=T a sb g h/\F sb g h X w') a w) (hq:∀sb g h X w',F sb g h X w'->Q .normal (T a sb g h) w'):c.wp P Q a w:=
 wp_mono h (fun e a' w' h1=>by
  obtain⟨rfl,sb,g,h,X,rfl,hF⟩:=h1
  exact hq sb g h X w' hF)
theorem we {pn:Nat->Nat} {z0 z1:Nat->Nat->Int} {w0 w:World} {b M K:Nat} {L:cY} (h:Lk w0 w b L) (hd0:aG pn z0 K L.x0 M) (hd1:aG pn z1 K L.x1 M) (hdd:¬L.x0.cf.d=L.x1.cf.d) (hbb:L.x0.cf.b=L.x1.cf.b) (hK:L.keys=K) (hK9:K < 50000) (hN:L.x0.N+L.x0.q<=200/\L.x1.N+L.x1.q<=200) (mv:Bool) :
  Calls Tryz.prog 15 #[.pointer (some ⟨b,0,none⟩),.bool mv] w fun e w'=>∃(L':cY),e=.returned (.bool true)/\Lk w0 w' b L'/\aG pn z0 (K+4) L'.x0 M/\aG pn z1 (K+4) L'.x1 M/\il L.x0 L'.x0/\il L.x1 L'.x1/\L'.keys=K+4/\L'.v0=L.v0/\L'.v1=L.v1:=by
 have HL:=zh h;have HD0:=zh hd0;have HD1:=zh hd1;have HDB:=zh (And.intro hdd hbb);have HK:=zh (And.intro hK hK9);have HN9:=zh hN;have HN2:Hid (L.x0.N<=200/\L.x1.N<=200):=zh (by omega);clear h hd0 hd1 hdd hbb hK hK9 hN;go_enter Tryz.func15,Tryz.ntmps15;obtain⟨KU,hKU⟩:∃q,q=k2 (kA (K+1)) (kB (K+1)) (kA (K+2)) (kB (K+2)):=⟨_,rfl⟩
 obtain⟨KD,hKD⟩:∃q,q=k2 (kA (K+3)) (kB (K+3)) (kA (K+4)) (kB (K+4)):=⟨_,rfl⟩
 have HKU:=zh hKU;have HKD:=zh hKD;clear hKU hKD;go_upto_region 2 with (first
  | (go_at_call 12;have hq:=G3.out;clear hq;refine(gy G3.out (by decide) rfl (K+3) (by have:=HK.out.2;omega) rfl).mono ?_;rintro e w13 ⟨rfl,hb⟩;have G4:=zh hb;clear hb)
  | (go_at_call 12;have hq:=G2.out;clear hq;refine(gy G2.out (by decide) rfl (K+2) (by have:=HK.out.2;omega) rfl).mono ?_;rintro e w12 ⟨rfl,hb⟩;have G3:=zh hb;clear hb)
  | (go_at_call 12;have hq:=G1.out;clear hq;refine(gy G1.out (by decide) rfl (K+1) (by have:=HK.out.2;omega) rfl).mono ?_;rintro e w11 ⟨rfl,hb⟩;have G2:=zh hb;clear hb)
  | (go_at_call 12;refine(gy HL.out (by decide) rfl (K) (by have:=HK.out.2;omega) (by show some (Value.int .i64 ((L.keys:Nat):Int))=_;rw[HK.out.1])).mono ?_;rintro e w10 ⟨rfl,hb⟩;have G1:=zh hb;clear hb)
  | (refine wpList_store_row rfl _ _ _ rfl w13.heap.size (k2 (kA (K+1)) (kB (K+1)) (kA (K+2)) (kB (K+2))) rfl rfl 46 wW ((ae.new w13 _ _).alloc _) (gD _ rfl) rfl (xG _ _ _ _) ?_)
  | (refine wpList_store_row rfl _ _ _ rfl (w13.heap.size+1) (k2 (kA (K+3)) (kB (K+3)) (kA (K+4)) (kB (K+4))) rfl rfl 46 wW (ae.farRow (aI _ _ _ _ (by simp)) (by omega)) (gD _ rfl) rfl (xG _ _ _ _) ?_))
 have hV:=an.setRowN (i:=8) (an.setRowN (i:=7) (an.newBlk (an.newBlk G4.out 46 wW) 46 wW) (by decide) rfl (k2 (kA (K+1)) (kB (K+1)) (kA (K+2)) (kB (K+2)))) (by decide) rfl (k2 (kA (K+3)) (kB (K+3)) (kA (K+4)) (kB (K+4)));have hs:(w13.alloc (.cells wW 46)).heap.size=w13.heap.size+1:=by simp
 rw[hs]at hV;rw[<-HKU.out,<-HKD.out]at hV;rw[<-HKU.out,<-HKD.out];obtain⟨k5,hk5⟩:∃k,k=w13.heap.size:=⟨_,rfl⟩
 rw[<-hk5]at hV ⊢;refine ah (fun V=>an w0 V 9 (bW (bW (cY.ag { L with keys:=K+4 } b) 7 (bX k5 46 KU)) 8 (bX (k5+1) 46 KD))) (hV.congr (fun j hj=>by
  rcases (by omega:j=0\/j=1\/j=2\/j=3\/j=4\/j=5\/j=6\/j=7\/j=8)with rfl | rfl | rfl | rfl | rfl | rfl | rfl | rfl | rfl<;>rfl)) ?_
 intro V hF;have HF:=zh hF;clear hF hV hs hk5;go_upto_if 28 with (fail)
 go_cut [7,8,9,10,11,12]from 29 to 95 (fun v7 v8 v9 v10 v11 v12 wx=>Bh pn z0 z1 w0 b L K M k5 KU KD wx)
 case first=>
  obtain⟨UT,hUT,hUT2⟩:=HD0.out.gt;obtain⟨UR,hUR,hUR2⟩:=HD1.out.gr;have hFT:=eM hUT2 (show K < K+1 by omega) (by have:=HK.out.2;omega);have hFR:=eM hUR2 (show K < K+3 by omega) (by have:=HK.out.2;omega);have hcm1:L.x1.rs.C.cm=false:=by rw[HD1.out.r.C];exact HD1.out.cm
  have hpl0:L.x0.ts.P.length<=1000000:=by have:=HD0.out.t.plen;have:=HN9.out;omega
  have hql0:L.x0.ts.Q.length<=1000000:=by have:=HD0.out.t.qlen;have:=HN9.out;omega
  have e1:∀j,j < 16->KU[j]? = some (.int .u8 (aY (K+1) j)):=by rw[HKU.out];exact sN _ _
  have e2:∀j,j < 16->KU[16+j]? = some (.int .u8 (aY (K+2) j)):=by rw[HKU.out];exact sP _ _
  have e3:∀j,j < 16->KD[j]? = some (.int .u8 (aY (K+3) j)):=by rw[HKD.out];exact sN _ _
  have e4:∀j,j < 16->KD[16+j]? = some (.int .u8 (aY (K+4) j)):=by rw[HKD.out];exact sP _ _
  have s1:KU.size=32:=by rw[HKU.out];rfl
  have s2:KD.size=32:=by rw[HKD.out];rfl
  have HSU:Hid ((Tryz.prog.info? 46).map (·.size)=some KU.toList.length):=zh (by rw[Array.length_toList];exact gD _ s1);have HSD:Hid ((Tryz.prog.info? 46).map (·.size)=some KD.toList.length):=zh (by rw[Array.length_toList];exact gD _ s2);have HU46:=zh Tryz.underlying46;have HUS:=zh Tryz.underlying34;have HUC:=zh Tryz.underlying25;have HUK:=zh Tryz.underlying23;obtain⟨SV,hSV⟩:∃q,q=ao L.t0 L.r1:=⟨_,rfl⟩
  have HSS:Hid ((Tryz.prog.info? 34).map (·.size)=some SV.toList.length):=zh (by rw[hSV];kernel_rfl);have HS9:Hid (S9 b k5 KU KD 0 SV V):=zh (by rw[hSV];exact sh (n:=9) HF.out (by decide) rfl rfl rfl rfl rfl);have HE:=zh (And.intro e1 (And.intro e2 (And.intro e3 e4)));have HUU:=zh (And.intro hUT (And.intro hUR (And.intro hFT hFR)));have HPQ:=zh (And.intro hcm1 (And.intro hpl0 hql0));have HSV:=zh hSV;clear hUT hUT2 hUR hUR2 hFT hFR hcm1 hpl0 hql0 e1 e2 e3 e4 s1 s2 hSV
  cases mv
  ·have HRE:Hid (∀W,an w0 W 9 (bW (bW (cY.ag { L with keys:=K+4 } b) 7 (bX k5 46 KU)) 8 (bX (k5+1) 46 KD))->Calls Tryz.prog 13 #[.agg SV,.agg KU,.agg KD] W fun e w'=>e=.returned (.int .i64 0)/\an w0 w' 9 (bW (bW (cY.ag (L.hf L.t0 L.r1 (L.x0.ts.rekeyed (aY (K+1)) (aY (K+2))) (L.x1.rs.rekeyed (aY (K+3)) (aY (K+4))) (K+4)) b) 7 (bX k5 46 KU)) 8 (bX (k5+1) 46 KD))/\S9 b k5 KU KD 0 SV w'):=zh (fun W hW=>by
    rw[HSV.out];refine(an.rest (i:=0) (j:=3) hW (by decide) (by decide) (by decide) rfl rfl HE.out.1 HE.out.2.1 HE.out.2.2.1 HE.out.2.2.2 UT UR HUU.out.1 HUU.out.2.1 HD0.out.co HPQ.out.2.1 HPQ.out.1 HUU.out.2.2.1 HUU.out.2.2.2).mono ?_;rintro e w' ⟨he,hF⟩;have h9:an w0 w' 9 (bW (bW (cY.ag (L.hf L.t0 L.r1 (L.x0.ts.rekeyed (aY (K+1)) (aY (K+2))) (L.x1.rs.rekeyed (aY (K+3)) (aY (K+4))) (K+4)) b) 7 (bX k5 46 KU)) 8 (bX (k5+1) 46 KD)):=hF.congr (fun j hj=>by
     rcases (by omega:j=0\/j=1\/j=2\/j=3\/j=4\/j=5\/j=6\/j=7\/j=8)with rfl | rfl | rfl | rfl | rfl | rfl | rfl | rfl | rfl<;>rfl)
    exact⟨he,h9,sh (n:=9) h9 (by decide) rfl rfl rfl rfl rfl⟩)
   go_upto_region 10 with (fail)
   have HR0:=zh (show ∀W,S9 b k5 KU KD 0 SV W->W.rangeAt b 0 SV.toList from fun W hW=>hW.2.2);have HR5:=zh (show ∀W,S9 b k5 KU KD 0 SV W->W.rangeAt k5 0 KU.toList from fun W hW=>eH hW.1);have HR6:=zh (show ∀W,S9 b k5 KU KD 0 SV W->W.rangeAt (k5+1) 0 KD.toList from fun W hW=>eH hW.2.1);refine wp_region_held_drew (S:=S9 b k5 KU KD 0 SV) (by kernel_rfl) HS9.out (fun hHeld=>?_);obtain⟨u0,hu0⟩:=af V.drew
   have HU0:=zh (HF.out.below (w':=u0) (by rw[hu0];exact(Below.refl _ V).drew));rw[<-hu0];rw[<-hu0]at hHeld;clear hu0;refine ba (i:=0) (x:=some 87) (v:=.pointer (some ⟨b,0,none⟩)) rfl ?_;refine az (i:=1) (x:=some 88) (v:=.pointer (some ⟨b,0,none⟩)) rfl ?_;refine az (i:=2) (x:=some 89) (v:=.pointer (some ⟨b,0,none⟩)) rfl ?_;refine az (i:=3) (x:=some 90) (v:=.pointer (some ⟨b,0,none⟩)) rfl ?_;refine' bE (i:=4) (x:=some 91) (v:=_) rfl (yieldsIf_load_mid (by rfl) _ _ rfl b 0 rfl SV.toList _ (fun W hW=>HR0.out W hW) HUS.out rfl HSS.out) ?_;refine' bE (i:=5) (x:=some 92) (v:=_) rfl (yieldsIf_load_mid (by rfl) _ _ rfl k5 0 rfl KU.toList _ (fun W hW=>HR5.out W hW) HU46.out rfl HSU.out) ?_;refine' bE (i:=6) (x:=some 93) (v:=_) rfl (yieldsIf_load_mid (by rfl) _ _ rfl (k5+1) 0 rfl KD.toList _ (fun W hW=>HR6.out W hW) HU46.out rfl HSD.out) ?_;refine aL (i:=7) (x:=some 94) rfl fun K hK=>?_;go_simp;refine(HRE.out u0 HU0.out).mono ?_;rintro e u1 ⟨rfl,hF1,hS1⟩;dsimp only;have HU1:=zh hF1;clear hF1;refine hK.out _ _ (hS1) (fun hHeld=>?_);clear hK K hS1
   try simp only[Act.put,qa,qb,qc]
   refine az (i:=8) (x:=some 95) (v:=.bool false) rfl ?_;refine wpAnyH_done (by kernel_rfl) ?_ _;clear hHeld;go_wp2;go_meet
   case rel=>exact⟨L.t0,L.r1,_,_,HU1.out,iW.rekey HD0.out (by omega) (by omega),iU.rekey HD1.out (by omega) (by omega)⟩
  ·obtain⟨A9,hA9⟩:∃A,A=(bW (bW (cY.ag { L with keys:=K+4 } b) 7 (bX k5 46 KU)) 8 (bX (k5+1) 46 KD)):=⟨_,rfl⟩
   obtain⟨LA0,hLA0⟩:∃q,q=cY.arr { L with keys:=K+4 }:=⟨_,rfl⟩
   have f0:A9 0=fN L.t0 L.x0.ts:=by rw[hA9];rfl
   have f3:A9 3=fP L.r1 L.x1.rs L.o1 L.co1 L.x1.vs:=by rw[hA9];rfl
   have f6:A9 6=bX b 39 LA0:=by rw[hA9,hLA0];rfl
   have f7:A9 7=bX k5 46 KU:=by rw[hA9];rfl
   have f8:A9 8=bX (k5+1) 46 KD:=by rw[hA9];rfl
   have l0:LA0[0]? = some (.pointer (some ⟨L.t0,0,none⟩)):=by rw[hLA0];rfl
   have l1:LA0[1]? = some (.pointer (some ⟨L.r1,0,none⟩)):=by rw[hLA0];rfl
   have hFv:=HF.out;rw[<-hA9]at hFv;have HFV:=zh hFv;have HA9:=zh (And.intro hA9 hLA0);have HF0:=zh (And.intro f0 (And.intro f3 (And.intro f6 (And.intro f7 f8))));have HL01:=zh (And.intro l0 l1);clear hA9 hLA0 f0 f3 f6 f7 f8 l0 l1 hFv;have HTC:=an.tconfig (i:=0) HFV.out (by decide) HF0.out.1;obtain⟨CT,hCT⟩:∃c,c=L.x0.ts.C:=⟨_,rfl⟩
   have HCT:=zh hCT;rw[<-hCT]at HTC;have HST:Hid ((Tryz.prog.info? 25).map (·.size)=some CT.arr.size):=zh (by rw[CT.arr_size];exact aS);have HZT:Hid (lZ.size=CT.arr.size):=zh (by rw[CT.arr_size];rfl);have HOT:=zh CT.arr_one;obtain⟨TA,hTA⟩:∃c,c=CT.arr:=⟨_,rfl⟩
   rw[<-hTA]at HST HZT HOT HTC;have HTC2:=zh HTC;have HTA:=zh hTA;have c0:V.cell? ⟨b,0,none⟩=some (.pointer (some ⟨L.t0,0,none⟩)):=((an.blk (i:=6) HFV.out (by decide) HF0.out.2.2.1).cell 0).trans HL01.out.1;clear hCT hTA HTC;go_upto_region 4 with (first
    | (go_at_call 10;refine(HTC2.out).mono ?_;rintro e w4 ⟨rfl,hb⟩;have HL4:=zh (HFV.out.below hb);clear hb)
    | (refine wpList_store_row rfl _ _ _ rfl w4.heap.size TA rfl rfl 25 lZ (ae.new w4 _ _) HST.out HZT.out HOT.out ?_))
   obtain⟨k7,hk7⟩:∃k,k=w4.heap.size:=⟨_,rfl⟩
   have hV5:=an.varN HL4.out 25 lZ TA;rw[<-hk7]at hV5 ⊢;refine ah (fun V5=>an w0 V5 10 (bW A9 9 (bX k7 25 TA))) hV5 ?_;intro V5 hF5;have HF5:=zh hF5;clear hF5 hV5 hk7 c0;have HRC:=an.rconfig (i:=3) HF5.out (by decide) HF0.out.2.1;obtain⟨CR,hCR⟩:∃c,c=L.x1.rs.C:=⟨_,rfl⟩
   have HCR:=zh hCR;rw[<-hCR]at HRC;have HSR:Hid ((Tryz.prog.info? 25).map (·.size)=some CR.arr.size):=zh (by rw[CR.arr_size];exact aS);have HZR:Hid (lZ.size=CR.arr.size):=zh (by rw[CR.arr_size];rfl);have HOR:=zh CR.arr_one;obtain⟨RA,hRA⟩:∃c,c=CR.arr:=⟨_,rfl⟩
   rw[<-hRA]at HSR HZR HOR HRC;have HRC2:=zh HRC;have HRA:=zh hRA;have c1:V5.cell? ⟨b,1,none⟩=some (.pointer (some ⟨L.r1,0,none⟩)):=((an.blk (i:=6) HF5.out (by decide) HF0.out.2.2.1).cell 1).trans HL01.out.2;clear hCR hRA HRC;go_upto_region 5 with (first
    | (go_at_call 11;refine(HRC2.out).mono ?_;rintro e w6 ⟨rfl,hb⟩;have HL6:=zh (HF5.out.below hb);clear hb)
    | (refine wpList_store_row rfl _ _ _ rfl w6.heap.size RA rfl rfl 25 lZ (ae.new w6 _ _) HSR.out HZR.out HOR.out ?_))
   obtain⟨k9,hk9⟩:∃k,k=w6.heap.size:=⟨_,rfl⟩
   have hV7:=an.varN HL6.out 25 lZ RA;rw[<-hk9]at hV7 ⊢;refine ah (fun V7=>an w0 V7 11 (bW (bW A9 9 (bX k7 25 TA)) 10 (bX k9 25 RA))) hV7 ?_;intro V7 hF7;have HF7:=zh hF7;clear hF7 hV7 hk9 c1;have hR1:∀W,ae W k5 46 KU/\ae W (k5+1) 46 KD->W.rangeAt k5 0 (aj (aY (K+1))).toList:=fun W hW=>iR hW.1 (fun j hj=>by rw[Nat.zero_add];exact HE.out.1 j hj);have hR2:∀W,ae W k5 46 KU/\ae W (k5+1) 46 KD->W.rangeAt k5 16 (aj (aY (K+2))).toList:=fun W hW=>iR hW.1 HE.out.2.1;have hR3:∀W,ae W k5 46 KU/\ae W (k5+1) 46 KD->W.rangeAt (k5+1) 0 (aj (aY (K+3))).toList:=fun W hW=>iR hW.2 (fun j hj=>by rw[Nat.zero_add];exact HE.out.2.2.1 j hj);have hR4:∀W,ae W k5 46 KU/\ae W (k5+1) 46 KD->W.rangeAt (k5+1) 16 (aj (aY (K+4))).toList:=fun W hW=>iR hW.2 HE.out.2.2.2;have hTB:=kz CT (aY (K+1)) (aY (K+2));have hRB:=kz CR (aY (K+3)) (aY (K+4));rw[<-HTA.out]at hTB;rw[<-HRA.out]at hRB;obtain⟨F1,hF1⟩:∃q,q=aj (aY (K+1)):=⟨_,rfl⟩
   obtain⟨F2,hF2⟩:∃q,q=aj (aY (K+2)):=⟨_,rfl⟩
   obtain⟨F3,hF3⟩:∃q,q=aj (aY (K+3)):=⟨_,rfl⟩
   obtain⟨F4,hF4⟩:∃q,q=aj (aY (K+4)):=⟨_,rfl⟩
   have HSZ:Hid (∀q,q=F1\/q=F2\/q=F3\/q=F4->q.size=16/\(Tryz.prog.info? 23).map (·.size)=some q.size/\q.all (·.oneCell')=true/\(Tryz.prog.info? 23).map (·.size)=some q.toList.length):=zh (fun q hq=>by
    have hx:∃m,q=aj (aY m):=by
     rcases hq with h | h | h | h
     ·exact⟨_,h.trans hF1⟩
     ·exact⟨_,h.trans hF2⟩
     ·exact⟨_,h.trans hF3⟩
     ·exact⟨_,h.trans hF4⟩
    obtain⟨m,hm⟩:=hx;rw[hm]
    exact⟨rfl,cU _,lG _,cU _⟩)
   rw[<-hF1]at hR1 hTB;rw[<-hF2]at hR2 hTB;rw[<-hF3]at hR3 hRB;rw[<-hF4]at hR4 hRB;have HR1:=zh hR1;have HR2:=zh hR2;have HR3:=zh hR3;have HR4:=zh hR4;have HI1:=zh (HSZ.out F1 (.inl rfl));have HI2:=zh (HSZ.out F2 (.inr (.inl rfl)));have HI3:=zh (HSZ.out F3 (.inr (.inr (.inl rfl))));have HI4:=zh (HSZ.out F4 (.inr (.inr (.inr rfl))));have HTSZ:Hid (TA.size=39/\RA.size=39):=zh ⟨by rw[HTA.out,ax.arr_size],by rw[HRA.out,ax.arr_size]⟩;obtain⟨TB,hTBB⟩:∃q,q=(CT.keys (aY (K+1)) (aY (K+2))).arr:=⟨_,rfl⟩
   obtain⟨RB,hRBB⟩:∃q,q=(CR.keys (aY (K+3)) (aY (K+4))).arr:=⟨_,rfl⟩
   rw[<-hTBB]at hTB;rw[<-hRBB]at hRB;have HTB:=zh hTB;have HRB:=zh hRB;have HBB:=zh (And.intro hTBB hRBB);clear hR1 hR2 hR3 hR4 hF1 hF2 hF3 hF4 HSZ hTBB hRBB hTB hRB;refine wp_region_held_drew (S:=fun W=>ae W k5 46 KU/\ae W (k5+1) 46 KD) (by kernel_rfl) ⟨an.blk (i:=7) HF7.out (by decide) HF0.out.2.2.2.1,an.blk (i:=8) HF7.out (by decide) HF0.out.2.2.2.2⟩ (fun hHeld=>?_);obtain⟨u0,hu0⟩:=af V7.drew
   have HU0:=zh (HF7.out.below (w':=u0) (by rw[hu0];exact(Below.refl _ V7).drew));rw[<-hu0];rw[<-hu0]at hHeld;clear hu0;refine az (i:=0) (x:=some 49) (v:=.pointer (some ⟨k5,0,none⟩)) rfl ?_;refine' bE (i:=1) (x:=some 50) (v:=_) rfl (yieldsIf_load_mid (by rfl) _ _ rfl k5 0 rfl F1.toList _ (fun W hW=>HR1.out W hW) HUK.out rfl HI1.out.2.2.2) ?_;refine az (i:=2) (x:=some 51) (v:=.pointer (some ⟨k5,16,none⟩)) rfl ?_;refine' bE (i:=3) (x:=some 52) (v:=_) rfl (yieldsIf_load_mid (by rfl) _ _ rfl k5 16 rfl F2.toList _ (fun W hW=>HR2.out W hW) HUK.out rfl HI2.out.2.2.2) ?_;refine az (i:=4) (x:=some 53) (v:=.pointer (some ⟨k5+1,0,none⟩)) rfl ?_;refine' bE (i:=5) (x:=some 54) (v:=_) rfl (yieldsIf_load_mid (by rfl) _ _ rfl (k5+1) 0 rfl F3.toList _ (fun W hW=>HR3.out W hW) HUK.out rfl HI3.out.2.2.2) ?_;refine az (i:=6) (x:=some 55) (v:=.pointer (some ⟨k5+1,16,none⟩)) rfl ?_;refine' bE (i:=7) (x:=some 56) (v:=_) rfl (yieldsIf_load_mid (by rfl) _ _ rfl (k5+1) 16 rfl F4.toList _ (fun W hW=>HR4.out W hW) HUK.out rfl HI4.out.2.2.2) ?_;refine az (i:=8) (x:=some 57) (v:=.pointer (some ⟨k7,2,none⟩)) rfl ?_;refine aL (i:=9) (x:=none) rfl fun K hK=>?_;have HB:=zh (an.blk (i:=9) HU0.out (by decide) rfl);refine wp_store_mid _ _ _ rfl k7 2 F1 rfl rfl (aJ HB.out 2 F1.size (by rw[HTSZ.out.1,HI1.out.1];decide)) HI1.out.2.1 HI1.out.2.2.1 ?_;have hP:=an.putRow (i:=9) HU0.out (by decide) rfl 2 F1.toList;obtain⟨u1,hu1⟩:∃v,v=u0.setCells k7 2 F1.toList:=⟨_,rfl⟩
   rw[<-hu1]at hP ⊢;have HU1:=zh hP;clear hu1 hP;refine hK.out _ _ (⟨an.blk (i:=7) HU1.out (by decide) HF0.out.2.2.2.1,an.blk (i:=8) HU1.out (by decide) HF0.out.2.2.2.2⟩) (fun hHeld=>?_);clear hK K HB
   try simp only[Act.put,qa,qb,qc]
   refine az (i:=10) (x:=some 58) (v:=.pointer (some ⟨k7,18,none⟩)) rfl ?_;refine aL (i:=11) (x:=none) rfl fun K hK=>?_;have HB:=zh (an.blk (i:=9) HU1.out (by decide) rfl);refine wp_store_mid _ _ _ rfl k7 18 F2 rfl rfl (aJ HB.out 18 F2.size (by rw[aM,HTSZ.out.1,HI2.out.1];decide)) HI2.out.2.1 HI2.out.2.2.1 ?_;have hP:=an.putRow (i:=9) HU1.out (by decide) rfl 18 F2.toList;obtain⟨u2,hu2⟩:∃v,v=u1.setCells k7 18 F2.toList:=⟨_,rfl⟩
   rw[<-hu2]at hP ⊢;have HU2:=zh hP;clear hu2 hP;refine hK.out _ _ (⟨an.blk (i:=7) HU2.out (by decide) HF0.out.2.2.2.1,an.blk (i:=8) HU2.out (by decide) HF0.out.2.2.2.2⟩) (fun hHeld=>?_);clear hK K HB
   try simp only[Act.put,qa,qb,qc]
   refine az (i:=12) (x:=some 59) (v:=.pointer (some ⟨k9,2,none⟩)) rfl ?_;refine aL (i:=13) (x:=none) rfl fun K hK=>?_;have HB:=zh (an.blk (i:=10) HU2.out (by decide) rfl);refine wp_store_mid _ _ _ rfl k9 2 F3 rfl rfl (aJ HB.out 2 F3.size (by rw[HTSZ.out.2,HI3.out.1];decide)) HI3.out.2.1 HI3.out.2.2.1 ?_;have hP:=an.putRow (i:=10) HU2.out (by decide) rfl 2 F3.toList;obtain⟨u3,hu3⟩:∃v,v=u2.setCells k9 2 F3.toList:=⟨_,rfl⟩
   rw[<-hu3]at hP ⊢;have HU3:=zh hP;clear hu3 hP;refine hK.out _ _ (⟨an.blk (i:=7) HU3.out (by decide) HF0.out.2.2.2.1,an.blk (i:=8) HU3.out (by decide) HF0.out.2.2.2.2⟩) (fun hHeld=>?_);clear hK K HB
   try simp only[Act.put,qa,qb,qc]
   refine az (i:=14) (x:=some 60) (v:=.pointer (some ⟨k9,18,none⟩)) rfl ?_;refine aL (i:=15) (x:=none) rfl fun K hK=>?_;have HB:=zh (an.blk (i:=10) HU3.out (by decide) rfl);refine wp_store_mid _ _ _ rfl k9 18 F4 rfl rfl (aJ HB.out 18 F4.size (by rw[aM,HTSZ.out.2,HI4.out.1];decide)) HI4.out.2.1 HI4.out.2.2.1 ?_;have hP:=an.putRow (i:=10) HU3.out (by decide) rfl 18 F4.toList;obtain⟨u4,hu4⟩:∃v,v=u3.setCells k9 18 F4.toList:=⟨_,rfl⟩
   rw[<-hu4]at hP ⊢;have HU4:=zh hP;clear hu4 hP;refine hK.out _ _ (⟨an.blk (i:=7) HU4.out (by decide) HF0.out.2.2.2.1,an.blk (i:=8) HU4.out (by decide) HF0.out.2.2.2.2⟩) (fun hHeld=>?_);clear hK K HB
   try simp only[Act.put,qa,qb,qc]
   refine wpAnyH_done (by kernel_rfl) ?_ _;clear hHeld;have hU4:an w0 u4 11 (bW (bW A9 9 (bX k7 25 TB)) 10 (bX k9 25 RB)):=by
    have h:=HU4.out;rw[HTB.out,HRB.out]at h
    exact h.congr (fun j hj=>by
     rcases (by omega:j=0\/j=1\/j=2\/j=3\/j=4\/j=5\/j=6\/j=7\/j=8\/j=9\/j=10)with rfl | rfl | rfl | rfl | rfl | rfl | rfl | rfl | rfl | rfl | rfl<;>rfl)
   have HU5:=zh hU4;clear hU4;go_upto_region 6 with (fail)
   have HS6:=zh (show ∀(W:World) (n:Nat) (A:Nat->Ag),an w0 W n A->11<=n->A 6=A9 6->A 9=bX k7 25 TB->A 10=bX k9 25 RB->S6 b k7 k9 TB RB SV W from fun W n A hW hn h6 h9 h10=>by rw[HSV.out];exact AM hW hn (h6.trans HF0.out.2.2.1) h9 h10 HL01.out.1 HL01.out.2);have HMV:=zh (show ∀(W:World) (n:Nat) (A:Nat->Ag),an w0 W n A->3 < n->A 0=A9 0->A 3=A9 3->Calls Tryz.prog 35 #[.agg SV,.agg TB,.agg RB] W fun e w'=>∃g' h' X,e=.returned (.tuple #[.agg #[.pointer (some ⟨g',0,none⟩),.pointer (some ⟨h',0,none⟩)],.int .i64 0])/\an w0 w' n (bW (bW A 0 (fN g' (L.x0.ts.moved (CT.keys (aY (K+1)) (aY (K+2)))))) 3 (fP h' (dU (CR.keys (aY (K+3)) (aY (K+4))) X L.x1.rs.deliver L.x1.rs.next L.x1.rs.L) L.o1 L.co1 L.x1.vs))from fun W n A hW hn h0 h3=>by
    have hc0:L.x0.ts.C=L.x0.cf:=HD0.out.t.C;have hc1:L.x1.rs.C=L.x1.cf:=HD1.out.r.C;rw[HSV.out,HBB.out.1,HBB.out.2]
    exact an.moveS (i:=0) (j:=3) hW (by omega) hn (by decide) (h0.trans HF0.out.1) (h3.trans HF0.out.2.1) (HD0.out.t.tpl HD0.out.ac (by have:=HN9.out;omega)) HPQ.out.2.1 HPQ.out.2.2 HD1.out.r.wh (by have h:=HD1.out.r.len (m:=L.x1.N) HD1.out.sub;have h5:=HN9.out;have h6:L.x1.N<=200:=HN2.out.2;omega) (CT.keys (aY (K+1)) (aY (K+2))) (CR.keys (aY (K+3)) (aY (K+4))) (by rw[HCT.out,hc0];exact HD0.out.val) (by rw[HCR.out,hc1];exact HD1.out.val) (by rw[HCT.out,HCR.out,hc0,hc1];exact HDB.out.1) (by rw[HCT.out,HCR.out,hc0,hc1];exact HDB.out.2) (by rw[HCT.out];rfl))
   have HR0:=zh (show ∀W,S6 b k7 k9 TB RB SV W->W.rangeAt b 0 SV.toList from fun W hW=>hW.2.2);have HR7:=zh (show ∀W,S6 b k7 k9 TB RB SV W->W.rangeAt k7 0 TB.toList from fun W hW=>eH hW.1);have HR9:=zh (show ∀W,S6 b k7 k9 TB RB SV W->W.rangeAt k9 0 RB.toList from fun W hW=>eH hW.2.1);have HSTB:Hid ((Tryz.prog.info? 25).map (·.size)=some TB.toList.length):=zh (by rw[HBB.out.1,Array.length_toList,ax.arr_size];exact aS);have HSRB:Hid ((Tryz.prog.info? 25).map (·.size)=some RB.toList.length):=zh (by rw[HBB.out.2,Array.length_toList,ax.arr_size];exact aS);refine xA (fun a sb g h=>(((((((((((((a.put (some 62) (.pointer (some ⟨b,0,none⟩))).put (some 63) (.pointer (some ⟨b,0,none⟩))).put (some 64) (.pointer (some ⟨b,0,none⟩))).put (some 65) (.pointer (some ⟨b,0,none⟩))).put (some 66) (.agg SV)).put (some 67) (.agg TB)).put (some 68) (.agg RB)).put (some 69) (.tuple #[.agg #[.pointer (some ⟨g,0,none⟩),.pointer (some ⟨h,0,none⟩)],.int .i64 0])).put (some 61) (.tuple #[.agg #[.pointer (some ⟨g,0,none⟩),.pointer (some ⟨h,0,none⟩)],.int .i64 0])).put (some 70) (.agg #[.pointer (some ⟨g,0,none⟩),.pointer (some ⟨h,0,none⟩)])).put (some 71) (.int .i64 0)).put (some 11) (.pointer (some ⟨sb,0,none⟩))).put (some 12) (.int .i64 0))) (fun sb g h X w'=>an w0 w' 12 (bW (bW (bW (bW (bW A9 9 (bX k7 25 TB)) 10 (bX k9 25 RB)) 0 (fN g (L.x0.ts.moved (CT.keys (aY (K+1)) (aY (K+2)))))) 3 (fP h (dU (CR.keys (aY (K+3)) (aY (K+4))) X L.x1.rs.deliver L.x1.rs.next L.x1.rs.L) L.o1 L.co1 L.x1.vs)) 11 (bX sb 34 (ao g h)))) ?reg ?cont
   case reg=>
    refine wp_region_held_drew (S:=S6 b k7 k9 TB RB SV) (by kernel_rfl) (HS6.out _ 11 _ (HU5.out.below (Below.refl _ u4).drew) (by decide) rfl rfl rfl) (fun hHeld=>?_);obtain⟨v0,hv0⟩:∃u0,u0=u4.drew:=⟨_,rfl⟩
    have HV0:=zh (HU5.out.below (w':=v0) (by rw[hv0];exact(Below.refl _ u4).drew));rw[<-hv0];rw[<-hv0]at hHeld;clear hv0;refine wpAnyH_take (i:=0) (oi:=⟨some 62,_,_,_,_,_⟩) (v:=.pointer (some ⟨b,0,none⟩)) rfl (by kernel_rfl) (by kernel_rfl) (by kernel_rfl) (fun _ _ _ h=>nomatch h.1) (Or.inl ⟨by rfl,fun W hW=>(by rfl)⟩) (by assumption) ?_
    try simp only[Act.put,qa,qb,qc]
    refine wpAnyH_take (i:=1) (oi:=⟨some 63,_,_,_,_,_⟩) (v:=.pointer (some ⟨b,0,none⟩)) rfl (by kernel_rfl) (by kernel_rfl) (by kernel_rfl) (fun _ _ _ h=>nomatch h.1) (Or.inl ⟨by rfl,fun W hW=>(by go_simp)⟩) (by assumption) ?_
    try simp only[Act.put,qa,qb,qc]
    refine wpAnyH_take (i:=2) (oi:=⟨some 64,_,_,_,_,_⟩) (v:=.pointer (some ⟨b,0,none⟩)) rfl (by kernel_rfl) (by kernel_rfl) (by kernel_rfl) (fun _ _ _ h=>nomatch h.1) (Or.inl ⟨by rfl,fun W hW=>(by go_simp)⟩) (by assumption) ?_
    try simp only[Act.put,qa,qb,qc]
    refine wpAnyH_take (i:=3) (oi:=⟨some 65,_,_,_,_,_⟩) (v:=.pointer (some ⟨b,0,none⟩)) rfl (by kernel_rfl) (by kernel_rfl) (by kernel_rfl) (fun _ _ _ h=>nomatch h.1) (Or.inl ⟨by rfl,fun W hW=>(by go_simp)⟩) (by assumption) ?_
    try simp only[Act.put,qa,qb,qc]
    refine' wpAnyH_take (i:=4) (oi:=⟨some 66,_,_,_,_,_⟩) (v:=_) rfl (by kernel_rfl) (by kernel_rfl) (by kernel_rfl) (fun _ _ _ h=>nomatch h.1) (yieldsIf_load_mid (by rfl) _ _ rfl b 0 rfl SV.toList _ (fun W hW=>HR0.out W hW) HUS.out rfl HSS.out) (by assumption) ?_
    try simp only[Act.put,qa,qb,qc]
    refine' wpAnyH_take (i:=5) (oi:=⟨some 67,_,_,_,_,_⟩) (v:=_) rfl (by kernel_rfl) (by kernel_rfl) (by kernel_rfl) (fun _ _ _ h=>nomatch h.1) (yieldsIf_load_mid (by rfl) _ _ rfl k7 0 rfl TB.toList _ (fun W hW=>HR7.out W hW) HUC.out rfl HSTB.out) (by assumption) ?_
    try simp only[Act.put,qa,qb,qc]
    refine' wpAnyH_take (i:=6) (oi:=⟨some 68,_,_,_,_,_⟩) (v:=_) rfl (by kernel_rfl) (by kernel_rfl) (by kernel_rfl) (fun _ _ _ h=>nomatch h.1) (yieldsIf_load_mid (by rfl) _ _ rfl k9 0 rfl RB.toList _ (fun W hW=>HR9.out W hW) HUC.out rfl HSRB.out) (by assumption) ?_
    try simp only[Act.put,qa,qb,qc]
    refine wpAnyH_ready (rs:=[7,11]) (by kernel_rfl) (by simp) ?_;refine AllReadyH.cons (o:=⟨some 69,_,_,_,_,_⟩) rfl (fun K hK=>?_) (AllReadyH.cons (o:=⟨some 11,_,_,_,_,_⟩) rfl (fun K hK=>?_) AllReadyH.nil)
    focus
     skip;rw[if_pos (by rfl)];go_simp;refine(HMV.out v0 11 _ HV0.out (by decide) rfl rfl).mono ?_;rintro e v1 ⟨g,h,X,rfl,hF⟩;dsimp only;have HV1:=zh hF;clear hF;refine hK.out _ _ (HS6.out _ _ _ HV1.out (by decide) rfl rfl rfl) (fun hHeld=>?_);clear hK K
     try simp only[Act.put,qa,qb,qc]
     refine wpAnyH_take (i:=8) (oi:=⟨some 61,_,_,_,_,_⟩) (v:=.tuple #[.agg #[.pointer (some ⟨g,0,none⟩),.pointer (some ⟨h,0,none⟩)],.int .i64 0]) rfl (by kernel_rfl) (by kernel_rfl) (by kernel_rfl) (fun _ _ _ h=>nomatch h.1) (Or.inl ⟨by rfl,fun W hW=>(by rfl)⟩) (by assumption) ?_
     try simp only[Act.put,qa,qb,qc]
     refine wpAnyH_take (i:=9) (oi:=⟨some 70,_,_,_,_,_⟩) (v:=.agg #[.pointer (some ⟨g,0,none⟩),.pointer (some ⟨h,0,none⟩)]) rfl (by kernel_rfl) (by kernel_rfl) (by kernel_rfl) (fun _ _ _ h=>nomatch h.1) (Or.inl ⟨by rfl,fun W hW=>(by go_simp)⟩) (by assumption) ?_
     try simp only[Act.put,qa,qb,qc]
     refine wpAnyH_take (i:=10) (oi:=⟨some 71,_,_,_,_,_⟩) (v:=.int .i64 0) rfl (by kernel_rfl) (by kernel_rfl) (by kernel_rfl) (fun _ _ _ h=>nomatch h.1) (Or.inl ⟨by rfl,fun W hW=>(by go_simp)⟩) (by assumption) ?_
     try simp only[Act.put,qa,qb,qc]
     refine aL (i:=11) (x:=some 11) rfl fun K hK=>?_;go_simp;obtain⟨v2,hv2⟩:∃v,v=v1.alloc (.cells #[.pointer none,.pointer none] 34):=⟨_,rfl⟩
     have HV2:=zh (an.newBlk HV1.out 34 #[.pointer none,.pointer none]);obtain⟨sb,hsb⟩:∃v,v=v1.heap.size:=⟨_,rfl⟩
     rw[<-hv2]at HV2 ⊢;rw[<-hsb]at HV2 ⊢;clear hv2 hsb;refine hK.out _ _ (HS6.out _ _ _ HV2.out (by decide) rfl rfl rfl) (fun hHeld=>?_);clear hK K
     try simp only[Act.put,qa,qb,qc]
     refine aL (i:=12) (x:=none) rfl fun K hK=>?_;have HBS:=zh (an.blk (i:=11) HV2.out (by decide) rfl);refine wp_store_mid _ _ _ rfl sb 0 (ao g h) rfl rfl (aJ HBS.out 0 2 (by decide)) (aW g h) (cv g h) ?_;have hP:=an.putRow (i:=11) HV2.out (by decide) rfl 0 (ao g h).toList;obtain⟨v3,hv3⟩:∃v,v=v2.setCells sb 0 (ao g h).toList:=⟨_,rfl⟩
     rw[<-hv3]at hP ⊢;have HV3:=zh hP;clear hv3 hP;refine hK.out _ _ (HS6.out _ _ _ HV3.out (by decide) rfl rfl rfl) (fun hHeld=>?_);clear hK K HBS
     try simp only[Act.put,qa,qb,qc]
     refine wpAnyH_take (i:=13) (oi:=⟨some 12,_,_,_,_,_⟩) (v:=.int .i64 0) rfl (by kernel_rfl) (by kernel_rfl) (by kernel_rfl) (fun _ _ _ h=>nomatch h.1) (Or.inl ⟨by rfl,fun W hW=>(by rfl)⟩) (by assumption) ?_
     try simp only[Act.put,qa,qb,qc]
     refine wpAnyH_done (by kernel_rfl) ?_ _;clear hHeld;refine⟨rfl,sb,g,h,X,rfl,HV3.out.congr (fun j hj=>?_)⟩
    rotate_left
    focus
     skip;rw[if_pos (by rfl)];go_simp;obtain⟨v4,hv4⟩:∃v,v=v0.alloc (.cells #[.pointer none,.pointer none] 34):=⟨_,rfl⟩
     have HV4:=zh (an.newBlk HV0.out 34 #[.pointer none,.pointer none]);obtain⟨sb,hsb⟩:∃v,v=v0.heap.size:=⟨_,rfl⟩
     rw[<-hv4]at HV4 ⊢;rw[<-hsb]at HV4 ⊢;clear hv4 hsb;refine hK.out _ _ (HS6.out _ _ _ HV4.out (by decide) rfl rfl rfl) (fun hHeld=>?_);clear hK K
     try simp only[Act.put,qa,qb,qc]
     refine aL (i:=7) (x:=some 69) rfl fun K hK=>?_;go_simp;refine(HMV.out v4 12 _ HV4.out (by decide) rfl rfl).mono ?_;rintro e v5 ⟨g,h,X,rfl,hF⟩;dsimp only;have HV5:=zh hF;clear hF;refine hK.out _ _ (HS6.out _ _ _ HV5.out (by decide) rfl rfl rfl) (fun hHeld=>?_);clear hK K
     try simp only[Act.put,qa,qb,qc]
     refine wpAnyH_take (i:=8) (oi:=⟨some 61,_,_,_,_,_⟩) (v:=.tuple #[.agg #[.pointer (some ⟨g,0,none⟩),.pointer (some ⟨h,0,none⟩)],.int .i64 0]) rfl (by kernel_rfl) (by kernel_rfl) (by kernel_rfl) (fun _ _ _ h=>nomatch h.1) (Or.inl ⟨by rfl,fun W hW=>(by rfl)⟩) (by assumption) ?_
     try simp only[Act.put,qa,qb,qc]
     refine wpAnyH_take (i:=9) (oi:=⟨some 70,_,_,_,_,_⟩) (v:=.agg #[.pointer (some ⟨g,0,none⟩),.pointer (some ⟨h,0,none⟩)]) rfl (by kernel_rfl) (by kernel_rfl) (by kernel_rfl) (fun _ _ _ h=>nomatch h.1) (Or.inl ⟨by rfl,fun W hW=>(by go_simp)⟩) (by assumption) ?_
     try simp only[Act.put,qa,qb,qc]
     refine wpAnyH_take (i:=10) (oi:=⟨some 71,_,_,_,_,_⟩) (v:=.int .i64 0) rfl (by kernel_rfl) (by kernel_rfl) (by kernel_rfl) (fun _ _ _ h=>nomatch h.1) (Or.inl ⟨by rfl,fun W hW=>(by go_simp)⟩) (by assumption) ?_
     try simp only[Act.put,qa,qb,qc]
     refine aL (i:=12) (x:=none) rfl fun K hK=>?_;have HBS:=zh (an.blk (i:=11) HV5.out (by decide) rfl);refine wp_store_mid _ _ _ rfl sb 0 (ao g h) rfl rfl (aJ HBS.out 0 2 (by decide)) (aW g h) (cv g h) ?_;have hP:=an.putRow (i:=11) HV5.out (by decide) rfl 0 (ao g h).toList;obtain⟨v6,hv6⟩:∃v,v=v5.setCells sb 0 (ao g h).toList:=⟨_,rfl⟩
     rw[<-hv6]at hP ⊢;have HV6:=zh hP;clear hv6 hP;refine hK.out _ _ (HS6.out _ _ _ HV6.out (by decide) rfl rfl rfl) (fun hHeld=>?_);clear hK K HBS
     try simp only[Act.put,qa,qb,qc]
     refine wpAnyH_take (i:=13) (oi:=⟨some 12,_,_,_,_,_⟩) (v:=.int .i64 0) rfl (by kernel_rfl) (by kernel_rfl) (by kernel_rfl) (fun _ _ _ h=>nomatch h.1) (Or.inl ⟨by rfl,fun W hW=>(by rfl)⟩) (by assumption) ?_
     try simp only[Act.put,qa,qb,qc]
     refine wpAnyH_done (by kernel_rfl) ?_ _;clear hHeld;refine⟨rfl,sb,g,h,X,rfl,HV6.out.congr (fun j hj=>?_)⟩
    all_goals
     rcases (by omega:j=0\/j=1\/j=2\/j=3\/j=4\/j=5\/j=6\/j=7\/j=8\/j=9\/j=10\/j=11)with rfl | rfl | rfl | rfl | rfl | rfl | rfl | rfl | rfl | rfl | rfl | rfl<;>rfl
   case cont=>
    intro sb g h X w6 hF6;have HF6:=zh hF6;clear hF6;simp only[Act.put,qa,qb,qc];go_upto_region 9 with (fail)
    have HSB:Hid (∀W,an w0 W 12 (bW (bW (bW (bW (bW A9 9 (bX k7 25 TB)) 10 (bX k9 25 RB)) 0 (fN g (L.x0.ts.moved (CT.keys (aY (K+1)) (aY (K+2)))))) 3 (fP h (dU (CR.keys (aY (K+3)) (aY (K+4))) X L.x1.rs.deliver L.x1.rs.next L.x1.rs.L) L.o1 L.co1 L.x1.vs)) 11 (bX sb 34 (ao g h)))->W.rangeAt sb 0 (ao g h).toList):=zh (fun W hW=>eH (an.blk (i:=11) hW (by decide) rfl));have HSS2:Hid ((Tryz.prog.info? 34).map (·.size)=some (ao g h).toList.length):=zh (by kernel_rfl);have HR11:=zh (show ∀W,ae W sb 34 (ao g h)->W.rangeAt sb 0 (ao g h).toList from fun W hW=>eH hW);refine wp_region_held_drew (S:=fun W=>ae W sb 34 (ao g h)) (by kernel_rfl) (an.blk (i:=11) HF6.out (by decide) rfl) (fun hHeld=>?_);obtain⟨v0,hv0⟩:∃u0,u0=w6.drew:=⟨_,rfl⟩
    have HV0:=zh (HF6.out.below (w':=v0) (by rw[hv0];exact(Below.refl _ w6).drew));rw[<-hv0];rw[<-hv0]at hHeld;clear hv0;refine ba (i:=0) (x:=some 82) (v:=.pointer (some ⟨b,0,none⟩)) rfl ?_;refine' bE (i:=1) (x:=some 83) (v:=_) rfl (yieldsIf_load_mid (by rfl) _ _ rfl sb 0 rfl (ao g h).toList _ (fun W hW=>HR11.out W hW) HUS.out rfl HSS2.out) ?_;refine az (i:=2) (x:=some 84) (v:=.pointer (some ⟨b,0,none⟩)) rfl ?_;refine az (i:=3) (x:=some 85) (v:=.pointer (some ⟨b,0,none⟩)) rfl ?_;refine az (i:=4) (x:=some 86) (v:=.pointer (some ⟨b,0,none⟩)) rfl ?_;refine aL (i:=5) (x:=none) rfl fun K hK=>?_;have HBS:=zh (an.blk (i:=6) HV0.out (by decide) HF0.out.2.2.1);refine wp_store_mid _ _ _ rfl b 0 (ao g h) rfl rfl (aJ HBS.out 0 2 (by rw[HA9.out.2];exact(by decide:0+2<=9))) (aW g h) (cv g h) ?_;have hP:=an.putRow (i:=6) HV0.out (by decide) HF0.out.2.2.1 0 (ao g h).toList;obtain⟨v1,hv1⟩:∃v,v=v0.setCells b 0 (ao g h).toList:=⟨_,rfl⟩
    rw[<-hv1]at hP ⊢;have HV1:=zh hP;clear hv1 hP;refine hK.out _ _ (an.blk (i:=11) HV1.out (by decide) rfl) (fun hHeld=>?_);clear hK K HBS
    try simp only[Act.put,qa,qb,qc]
    refine wpAnyH_done (by kernel_rfl) ?_ _;clear hHeld;go_wp2;go_meet
    case rel=>
     refine⟨g,h,L.x0.ts.moved (CT.keys (aY (K+1)) (aY (K+2))),dU (CR.keys (aY (K+3)) (aY (K+4))) X L.x1.rs.deliver L.x1.rs.next L.x1.rs.L,(HV1.out.less (by decide)).congr (fun j hj=>?_),by rw[HCT.out,HD0.out.t.C];exact iW.moved HD0.out (by omega),by rw[HCR.out,HD1.out.r.C];exact iU.moved HD1.out (by omega) X⟩;have hA:=HA9.out;rw[hA.1,hA.2];rcases (by omega:j=0\/j=1\/j=2\/j=3\/j=4\/j=5\/j=6\/j=7\/j=8)with rfl | rfl | rfl | rfl | rfl | rfl | rfl | rfl | rfl<;>rfl
 case rest=>
  obtain⟨g,h,s,r,hF,hT,hR⟩:=hcut;have HFC:=zh hF;have HHT:=zh (And.intro hT hR);clear hF hT hR;obtain⟨UT,hUT,hUT2⟩:=HD1.out.gt;obtain⟨UR,hUR,hUR2⟩:=HD0.out.gr;have hFT:=eM hUT2 (show K < K+3 by omega) (by have:=HK.out.2;omega);have hFR:=eM hUR2 (show K < K+1 by omega) (by have:=HK.out.2;omega);have hcm1:L.x0.rs.C.cm=false:=by rw[HD0.out.r.C];exact HD0.out.cm
  have hpl0:L.x1.ts.P.length<=1000000:=by have:=HD1.out.t.plen;have:=HN2.out;omega
  have e1:∀j,j < 16->KU[j]? = some (.int .u8 (aY (K+1) j)):=by rw[HKU.out];exact sN _ _
  have e2:∀j,j < 16->KU[16+j]? = some (.int .u8 (aY (K+2) j)):=by rw[HKU.out];exact sP _ _
  have e3:∀j,j < 16->KD[j]? = some (.int .u8 (aY (K+3) j)):=by rw[HKD.out];exact sN _ _
  have e4:∀j,j < 16->KD[16+j]? = some (.int .u8 (aY (K+4) j)):=by rw[HKD.out];exact sP _ _
  have s1:KU.size=32:=by rw[HKU.out];rfl
  have s2:KD.size=32:=by rw[HKD.out];rfl
  have HSU:Hid ((Tryz.prog.info? 46).map (·.size)=some KU.toList.length):=zh (by rw[Array.length_toList];exact gD _ s1);have HSD:Hid ((Tryz.prog.info? 46).map (·.size)=some KD.toList.length):=zh (by rw[Array.length_toList];exact gD _ s2);have HU46:=zh Tryz.underlying46;have HUS:=zh Tryz.underlying34;obtain⟨SV,hSV⟩:∃q,q=ao L.t1 L.r0:=⟨_,rfl⟩
  have HSS:Hid ((Tryz.prog.info? 34).map (·.size)=some SV.toList.length):=zh (by rw[hSV];kernel_rfl);obtain⟨AC,hAC⟩:∃A,A=(bW (bW (cY.ag (L.hf g h s r (K+4)) b) 7 (bX k5 46 KU)) 8 (bX (k5+1) 46 KD)):=⟨_,rfl⟩
  have HS9:Hid (∀W,an w0 W 9 AC->S9 b k5 KU KD 2 SV W):=zh (fun W hW=>by rw[hSV];rw[hAC]at hW;exact sh (n:=9) hW (by decide) rfl rfl rfl rfl rfl);obtain⟨y0,hy0⟩:∃y:cR,y={ L.x0 with cf:=L.x0.cf.keys (aY (K+1)) (aY (K+2)),Rp:=fun _=>true,ts:=s,rs:=L.x0.rs.rekeyed (aY (K+1)) (aY (K+2)) }:=⟨_,rfl⟩
  obtain⟨y1,hy1⟩:∃y:cR,y={ L.x1 with cf:=L.x1.cf.keys (aY (K+3)) (aY (K+4)),Rp:=fun _=>true,ts:=L.x1.ts.rekeyed (aY (K+3)) (aY (K+4)),rs:=r }:=⟨_,rfl⟩
  have HY0:Hid (aG pn z0 (K+4) y0 M/\il L.x0 y0):=zh (by
   rw[hy0]
   exact⟨HD0.out.join HHT.out.1 (iU.rekey HD0.out (by omega) (by omega)),il.rekey HD0.out _ _ _ _⟩)
  have HY1:Hid (aG pn z1 (K+4) y1 M/\il L.x1 y1):=zh (by
   rw[hy1]
   exact⟨HD1.out.join (iW.rekey HD1.out (by omega) (by omega)) HHT.out.2,il.rekey HD1.out _ _ _ _⟩)
  obtain⟨L2,hL2⟩:∃q:cY,q={ L with t0:=g,r1:=h,x0:=y0,x1:=y1,keys:=K+4 }:=⟨_,rfl⟩
  have HRE:Hid (∀W,an w0 W 9 AC->Calls Tryz.prog 13 #[.agg SV,.agg KD,.agg KU] W fun e w'=>e=.returned (.int .i64 0)/\Lk w0 w' b L2/\S9 b k5 KU KD 2 SV w'):=zh (fun W hW=>by
   rw[hSV];rw[hAC]at hW;refine(an.rest (i:=1) (j:=2) hW (by decide) (by decide) (by decide) rfl rfl e3 e4 e1 e2 UT UR hUT hUR HD1.out.co hpl0 hcm1 hFT hFR).mono ?_;rintro e w' ⟨he,hF⟩;refine⟨he,?_,sh (n:=9) hF (by decide) rfl rfl rfl rfl rfl⟩;refine(hF.less (by decide)).congr (fun j hj=>?_);rw[hL2,hy0,hy1];rcases (by omega:j=0\/j=1\/j=2\/j=3\/j=4\/j=5\/j=6)with rfl | rfl | rfl | rfl | rfl | rfl | rfl<;>rfl)
  have HLL:=zh (show L2.x0=y0/\L2.x1=y1/\L2.keys=K+4/\L2.v0=L.v0/\L2.v1=L.v1 from by rw[hL2];exact⟨rfl,rfl,rfl,rfl,rfl⟩);have HFC2:Hid (an w0 wc 9 AC):=zh (by rw[hAC];exact HFC.out);clear hUT hUT2 hUR hUR2 hFT hFR hcm1 hpl0 e1 e2 e3 e4 s1 s2 hSV hAC hy0 hy1 hL2;go_upto_region 12 with (fail)
  have HR0:=zh (show ∀W,S9 b k5 KU KD 2 SV W->W.rangeAt b 2 SV.toList from fun W hW=>hW.2.2);have HR5:=zh (show ∀W,S9 b k5 KU KD 2 SV W->W.rangeAt k5 0 KU.toList from fun W hW=>eH hW.1);have HR6:=zh (show ∀W,S9 b k5 KU KD 2 SV W->W.rangeAt (k5+1) 0 KD.toList from fun W hW=>eH hW.2.1);refine wp_region_held_drew (S:=S9 b k5 KU KD 2 SV) (by kernel_rfl) (HS9.out _ (HFC2.out.below (Below.refl _ wc).drew)) (fun hHeld=>?_);obtain⟨u0,hu0⟩:=af wc.drew
  have HU0:=zh (HFC2.out.below (w':=u0) (by rw[hu0];exact(Below.refl _ wc).drew));rw[<-hu0];rw[<-hu0]at hHeld;clear hu0;refine ba (i:=0) (x:=some 96) (v:=.pointer (some ⟨b,0,none⟩)) rfl ?_;refine az (i:=1) (x:=some 97) (v:=.pointer (some ⟨b,0,none⟩)) rfl ?_;refine az (i:=2) (x:=some 98) (v:=.pointer (some ⟨b,0,none⟩)) rfl ?_;refine az (i:=3) (x:=some 99) (v:=.pointer (some ⟨b,2,none⟩)) rfl ?_;refine' bE (i:=4) (x:=some 100) (v:=_) rfl (yieldsIf_load_mid (by rfl) _ _ rfl b 2 rfl SV.toList _ (fun W hW=>HR0.out W hW) HUS.out rfl HSS.out) ?_;refine' bE (i:=5) (x:=some 101) (v:=_) rfl (yieldsIf_load_mid (by rfl) _ _ rfl (k5+1) 0 rfl KD.toList _ (fun W hW=>HR6.out W hW) HU46.out rfl HSD.out) ?_;refine' bE (i:=6) (x:=some 102) (v:=_) rfl (yieldsIf_load_mid (by rfl) _ _ rfl k5 0 rfl KU.toList _ (fun W hW=>HR5.out W hW) HU46.out rfl HSU.out) ?_;refine aL (i:=7) (x:=some 103) rfl fun K hK=>?_;go_simp;refine(HRE.out u0 HU0.out).mono ?_;rintro e u1 ⟨rfl,hF1,hS1⟩;dsimp only;have HU1:=zh hF1;clear hF1;refine hK.out _ _ (hS1) (fun hHeld=>?_);clear hK K hS1
  try simp only[Act.put,qa,qb,qc]
  refine az (i:=8) (x:=some 104) (v:=.bool false) rfl ?_;refine wpAnyH_done (by kernel_rfl) ?_ _;clear hHeld;have HM9:Hid (y0.N<=200/\y1.N<=200/\y0.q<=200/\y1.q<=200):=zh (by
   have h1:=HY0.out.2.N;have h2:=HY1.out.2.N;have h3:=HY0.out.2.q;have h4:=HY1.out.2.q;have:=HN2.out;have:=HN9.out;omega)
  go_upto_region 15 with (fail)
  go_loopw [13] (fun v13 wr=>∃(i:Int) (a0 a1:cR),v13=.int .i64 i/\(i=0\/i=1\/i=2)/\Lk w0 wr b { L2 with x0:=a0,x1:=a1 }/\aG pn z0 (K+4) a0 M/\aG pn z1 (K+4) a1 M/\il L.x0 a0/\il L.x1 a1/\a0.N<=200/\a1.N<=200/\a0.q<=200/\a1.q<=200) (fun v13 _=>3-(intOf v13).toNat)
  case atStart=>exact⟨0,y0,y1,rfl,.inl rfl,by have h:=HU1.out;rw[<-HLL.out.1,<-HLL.out.2.1];exact h,HY0.out.1,HY1.out.1,HY0.out.2,HY1.out.2,HM9.out.1,HM9.out.2.1,HM9.out.2.2.1,HM9.out.2.2.2⟩
  case round=>
   obtain⟨i,a0,a1,rfl,hi,hl,hd0,hd1,hr0,hr1,n0,n1,n2,n3⟩:=hrel;have HI:=zh (And.intro hd0 (And.intro hd1 (And.intro hr0 (And.intro hr1 (And.intro n0 (And.intro n1 (And.intro n2 n3)))))));have hB:=an.blk (i:=6) hl (by decide) rfl;have c0:wr.cell? ⟨b,0,none⟩=some (.pointer (some ⟨L2.t0,0,none⟩)):=hB.cell 0;have c1:wr.cell? ⟨b,1,none⟩=some (.pointer (some ⟨L2.r1,0,none⟩)):=hB.cell 1;have c2:wr.cell? ⟨b,2,none⟩=some (.pointer (some ⟨L2.t1,0,none⟩)):=hB.cell 2;have c3:wr.cell? ⟨b,3,none⟩=some (.pointer (some ⟨L2.r0,0,none⟩)):=hB.cell 3;have HLR:=zh hl;have hdl0:a0.rs.deliver < 4294967296:=by rw[hd0.r.deliver];have:=hd0.r.le;omega
   have hdl1:a1.rs.deliver < 4294967296:=by rw[hd1.r.deliver];have:=hd1.r.le;omega
   have hdg0:0<=a0.rs.deliver:=by rw[hd0.r.deliver];omega
   have hdg1:0<=a1.rs.deliver:=by rw[hd1.r.deliver];omega
   have hp0:a0.ts.P.length<=1000000/\a0.ts.Q.length<=1000000:=by have:=hd0.t.plen;have:=hd0.t.qlen;omega
   have hp1:a1.ts.P.length<=1000000/\a1.ts.Q.length<=1000000:=by have:=hd1.t.plen;have:=hd1.t.qlen;omega
   have HDL:=zh (And.intro hdl0 (And.intro hdl1 (And.intro hdg0 (And.intro hdg1 (And.intro hp0 hp1)))));clear hB hl hd0 hd1 hr0 hr1 n0 n1 n2 n3 hdl0 hdl1 hdg0 hdg1 hp0 hp1;rcases hi with rfl | rfl | rfl
   ·have HST:=zh (an.report (i:=3) HLR.out (by decide) rfl HDL.out.2.1 HI.out.2.1.r.statN);clear c0 c3;go_upto_region 19 with (first
     | (go_at_call 36;refine(HST.out).mono ?_;rintro e w5 ⟨g2,cap,rfl,hc,hr,hF⟩;have HF5:=zh (And.intro hc (And.intro hr hF));have c2':w5.cell? ⟨b,2,none⟩=some (.pointer (some ⟨L2.t1,0,none⟩)):=(an.blk (i:=6) hF (by decide) rfl).cell 2;clear hc hr hF c1 c2)
     | (go_at_call 37;refine(an.apply (i:=1) HF5.out.2.2 (by decide) rfl HDL.out.2.2.2.2.2 HI.out.2.1.t.incr _ HDL.out.2.2.2.1 HDL.out.2.1 HI.out.2.1.r.statN g2 cap HF5.out.1 HF5.out.2.1).mono ?_;rintro e w6 ⟨kk,rfl,hF⟩;have HF6:=zh hF;clear hF c2'))
    go_wp2;go_roundw
    case rel=>
     refine⟨1,a0,{ a1 with Pd:=fun k=>a1.Pd k && !a1.rs.rep (k:Int),ts:={ a1.ts with P:=a1.ts.P.filter (fun e=>!a1.rs.rep e.ct) } },rfl,.inr (.inl rfl),an.to7 HF6.out (by decide) _,HI.out.1,HI.out.2.1.confirm _ (fun k hk=>HI.out.2.1.r.sound k hk),HI.out.2.2.1,HI.out.2.2.2.1.confirm _ (fun k hk=>HI.out.2.1.r.sound k hk) _,HI.out.2.2.2.2.1,HI.out.2.2.2.2.2.1,HI.out.2.2.2.2.2.2.1,HI.out.2.2.2.2.2.2.2⟩
    case measure=>simp[intOf]
   ·have HST:=zh (an.report (i:=2) HLR.out (by decide) rfl HDL.out.1 HI.out.1.r.statN);clear c1 c2;go_upto_region 19 with (first
     | (go_at_call 36;refine(HST.out).mono ?_;rintro e w5 ⟨g2,cap,rfl,hc,hr,hF⟩;have HF5:=zh (And.intro hc (And.intro hr hF));have c0':w5.cell? ⟨b,0,none⟩=some (.pointer (some ⟨L2.t0,0,none⟩)):=(an.blk (i:=6) hF (by decide) rfl).cell 0;clear hc hr hF c0 c3)
     | (go_at_call 37;refine(an.apply (i:=0) HF5.out.2.2 (by decide) rfl HDL.out.2.2.2.2.1 HI.out.1.t.incr _ HDL.out.2.2.1 HDL.out.1 HI.out.1.r.statN g2 cap HF5.out.1 HF5.out.2.1).mono ?_;rintro e w6 ⟨kk,rfl,hF⟩;have HF6:=zh hF;clear hF c0'))
    go_wp2;go_roundw
    case rel=>
     refine⟨2,{ a0 with Pd:=fun k=>a0.Pd k && !a0.rs.rep (k:Int),ts:={ a0.ts with P:=a0.ts.P.filter (fun e=>!a0.rs.rep e.ct) } },a1,rfl,.inr (.inr rfl),an.to7 HF6.out (by decide) _,HI.out.1.confirm _ (fun k hk=>HI.out.1.r.sound k hk),HI.out.2.1,HI.out.2.2.1.confirm _ (fun k hk=>HI.out.1.r.sound k hk) _,HI.out.2.2.2.1,HI.out.2.2.2.2.1,HI.out.2.2.2.2.2.1,HI.out.2.2.2.2.2.2.1,HI.out.2.2.2.2.2.2.2⟩
    case measure=>simp[intOf]
   ·go_wp2;go_ret
    exact⟨{ L2 with x0:=a0,x1:=a1 },rfl,HLR.out,HI.out.1,HI.out.2.1,HI.out.2.2.1,HI.out.2.2.2.1,HLL.out.2.2.1,HLL.out.2.2.2.1,HLL.out.2.2.2.2⟩
end Go.Proofs.YtbfpdnnphdagjaaGreat

import Derived.Test.YtiiojpnckbglcaaGreatMVJs
import Derived.Test.YtiiojpnckbglcaaGreatMTBs
import Derived.Test.YtiiojpnckbglcaaGreatMVSs
import Derived.OrdersHeld
import Derived.Laws.EntriesVeiled
import Derived.Laws.CopyRow
import Derived.Deep.RegionHeld
import Derived.Test.YtiiojpnckbglcaaGreatB1s
set_option maxRecDepth 100000
set_option maxHeartbeats 6400000
set_option linter.unusedVariables false
set_option linter.unusedSimpArgs false
namespace Go.Proofs.YtiiojpnckbglcaaGreat
open Go.RowKit
attribute [local go_sem ↓] Go.wp_at_zero Go.wp_at_succ
theorem ln (off:Nat):∀(l:List Value) (k:Nat) (cs:Array Value),(l.zipIdx k).foldl (fun cs (x:Value×Nat)=>cs.setIfInBounds (off+x.2) x.1) cs=dC cs (off+k) l
 | [],_,_=>rfl
 | v :: r,k,cs=>by
  rw[List.zipIdx_cons,List.foldl_cons,ln off r (k+1),dC]
  rfl
theorem uO (z A B:Array Value) (n m:Nat) (hz:z.size=n+m) (hA:A.size=n) (hB:B.size=m) (place:Nat->Option (Nat×Nat)) (h0:place 0=some (0,n)) (h1:place 1=some (n,m)) :
  Instr.fill place z [(0,.agg A),(1,.agg B)] = some (A++B):=by
 have hf:∀(off:Nat) (C cs:Array Value),C.zipIdx.foldl (fun cs (x:Value×Nat)=>cs.setIfInBounds (off+x.2) x.1) cs=dC cs off C.toList:=fun off C cs=>by
  rw[<-Array.foldl_toList,Array.toList_zipIdx,ln off C.toList 0 cs,Nat.add_zero]
 have e1:(Value.agg A).cells=A:=rfl;have e2:(Value.agg B).cells=B:=rfl;simp only[Instr.fill,h0,h1,e1,e2];rw[if_neg (by simp[hA,hz]),if_neg]
 ·congr 1;have g1:=hf 0 A z;have g2:=hf n B (dC z 0 A.toList);rw[show(A.zipIdx.foldl (fun cs (x:Value×Nat)=>cs.setIfInBounds (0+x.2) x.1) z)=dC z 0 A.toList from g1];refine g2.trans ?_;apply Array.ext_getElem?;intro j;rcases Nat.lt_or_ge j n with h | h
  ·rw[cG _ _ _ _ (.inl h),Array.getElem?_append_left (by omega)];have:=dY A.toList 0 z j (by rw[Array.length_toList];omega) (by omega);rw[Nat.zero_add]at this;rw[this,Array.getElem?_toList]
  ·rcases Nat.lt_or_ge j (n+m)with h2 | h2
   ·have:=dY B.toList n (dC z 0 A.toList) (j-n) (by rw[Array.length_toList];omega) (by rw[bL];omega);rw[show n+(j-n)=j by omega]at this;rw[this,Array.getElem?_toList,Array.getElem?_append_right (by omega),hA]
   ·rw[Array.getElem?_eq_none (by rw[bL,bL];omega),Array.getElem?_eq_none (by rw[Array.size_append];omega)]
 ·have:=hf 0 A z;rw[show(A.zipIdx.foldl (fun cs (x:Value×Nat)=>cs.setIfInBounds (0+x.2) x.1) z)=dC z 0 A.toList from this,bL];simp[hB,hz]
theorem tz (A B:Array Value) (hA:A.size=512) (hB:B.size=176) (w:World):(Instr.build 275 #[(0,.agg A),(1,.agg B)]).run Tryz.prog w=.ok (.agg (A++B)) w:=by
 refine run_build w _ _ _ ?_;have hz:(Tryz.prog.info? 275).bind (fun i=>i.zero.map (·.cells.size))=some 688:=by kernel_rfl
 have hp:∀d,Tryz.prog.underlying 275 = some d->∃fs,d=.struct fs/\fs.toList.mapM (fun f=>(Tryz.prog.info? f.type).map fun i=>(f.offset,i.size))=some [(0,512),(512,176)]:=by
  rw[Tryz.underlying275];intro d hd
  cases hd
  exact⟨_,rfl,by kernel_rfl⟩
 cases hi:Tryz.prog.info? 275 with
 | none=>rw[hi]at hz;cases hz
 | some it=>
  rw[hi]at hz
  cases hu:Tryz.prog.underlying 275 with
  | none=>rw[Tryz.underlying275]at hu;cases hu
  | some d=>
   obtain⟨fs,rfl,hm⟩:=hp d hu
   cases hzz:it.zero with
   | none=>simp[hzz]at hz
   | some z=>
    simp only[Option.bind_some,hzz,Option.map_some,Option.some.injEq]at hz;unfold Program.built;simp only[hi,hu,hzz,hm]
    exact uO _ A B 512 176 hz hA hB _ rfl rfl
def yH (key:Nat->Nat) (w:World) (e:Ending) (w':World):Prop:=∃g,e=.returned (.pointer (some ⟨g,0,none⟩))/\cT w' g key/\w.heap.size<=g/\Below w.heap.size w w'
theorem mo (key:Nat->Nat) (hk:br key) (w:World):Calls Tryz.prog 137 #[.agg (ar key)] w (yH key w):=by
 have HSU:=zh (fun V=>jt V);have HSC:=zh (fun V=>ow fX wP key (fi 255) hk V);have HZ:=lG;obtain⟨BX,hBX⟩:=af (aV fX wP)
 obtain⟨ZX,hZX⟩:∃ZX,ZX=aV (fun _=>0) (fun _=>0):=⟨_,rfl⟩
 obtain⟨KY,hKY⟩:=af (ar key)
 obtain⟨KS,hKS⟩:=af (a9 (aX fX key) 176)
 have hBS:BX.size=512:=by rw[hBX];exact aN _ _
 have hKSS:KS.size=176:=by rw[hKS];exact bm _ _
 have HSB:Hid ((Tryz.prog.info? 269).map (·.size)=some BX.size):=zh (by rw[hBS];kernel_rfl);have HSBL:Hid ((Tryz.prog.info? 269).map (·.size)=some BX.toList.length):=zh (by rw[Array.length_toList];exact HSB.out);have HZB:Hid (ZX.size=BX.size):=zh (by rw[hZX,hBX,aN,aN]);have HOB:Hid (BX.all (·.oneCell')=true):=zh (by rw[hBX];exact jL _ _);have HSKL:Hid ((Tryz.prog.info? 23).map (·.size)=some KY.toList.length):=zh (by rw[Array.length_toList,hKY,ah];kernel_rfl);have HCB:=zh (fun V=>tz BX KS hBS hKSS V);have HCI:Hid (∀V g,ae V g 275 (BX++KS)->cT V g key):=zh (fun V g h=>by rw[hBX,hKS]at h;exact h);rw[<-hBX]at HSU HSC;rw[<-hZX]at HZ;rw[<-hKY]at HSC;rw[<-hKS]at HSC;rw[<-hKY];clear hBX hZX hKY hKS hBS hKSS hk;go_enter Tryz.func137,Tryz.ntmps137;obtain⟨kb,hkb⟩:=af w.heap.size
 go_upto_region 1 with (fail)
 refine ag (fun V=>ae V kb 23 KY/\Below w.heap.size w V/\V.heap.size=kb+1) ⟨by rw[hkb];exact ae.new _ _ _,bM _,by rw[hkb];simp⟩ ?_;rintro W1 ⟨b1,b2,b3⟩;have B1:=zh b1;have B2:=zh b2;have HKB:=zh (show w.heap.size<=kb/\kb < W1.heap.size by omega);rw[<-hkb];clear b1 b2 b3 hkb;go_upto_region 2 with (first
  | (go_at_call 181;refine(HSU.out _).mono ?_;rintro e w2 ⟨rfl,hb2⟩;have C1:=zh (B1.out.below hb2 B1.out.lt);have C2:=zh (B2.out.trans (hb2.mono B2.out.size));have C3:=zh (show kb < w2.heap.size by have:=C1.out.lt;omega);clear hb2)
  | (refine wpList_store_row rfl _ _ _ rfl w2.heap.size BX rfl rfl 269 ZX (ae.new w2 _ _) HSB.out HZB.out HOB.out ?_))
 obtain⟨sb,hsb⟩:=af w2.heap.size
 refine ag (fun V=>ae V kb 23 KY/\ae V sb 269 BX/\Below w.heap.size w V) ⟨(setRow_other _ _ _ _ (by have:=C3.out;omega)).trans (C1.out.alloc _),by rw[hsb];exact setRow_heap _ _ ZX BX 269 (0,0) (ae.new _ _ _),aj (C2.out.alloc C2.out.size _) C2.out.size _⟩ ?_;rintro W3 ⟨b1,b2,b3⟩;have D1:=zh b1;have D2:=zh b2;have D3:=zh b3;rw[<-hsb];clear b1 b2 b3 hsb B1 B2 C1 C2 C3 HZ;have hu:=Tryz.underlying269;have huk:=Tryz.underlying23;have hi1:=HSBL.out;have hi2:=HSKL.out;have rS:∀V,Below W3.heap.size W3 V->V.rangeAt sb 0 BX.toList:=fun V hV j v hv=>by
  rw[(D2.out.below hV D2.out.lt).cell,Nat.zero_add,<-Array.getElem?_toList];exact hv
 have rK:∀V,Below W3.heap.size W3 V->V.rangeAt kb 0 KY.toList:=fun V hV j v hv=>by
  rw[(D1.out.below hV D1.out.lt).cell,Nat.zero_add,<-Array.getElem?_toList];exact hv
 refine wp_region_held_drew (S:=fun w'=>Below W3.heap.size W3 w') (by kernel_rfl) (Below.refl _ _).drew (fun hHeld=>?_);refine' ed (i:=0) (x:=some 5) (v:=_) rfl (yieldsIf_load_mid (by rfl) _ _ rfl sb 0 rfl BX.toList _ (fun w h=>(fun w h=>rS w h) w h) hu rfl hi1) ?_;refine' ed (i:=1) (x:=some 6) (v:=_) rfl (yieldsIf_load_mid (by rfl) _ _ rfl sb 0 rfl BX.toList _ (fun w h=>(fun w h=>rS w h) w h) hu rfl hi1) ?_;refine' ed (i:=2) (x:=some 7) (v:=_) rfl (yieldsIf_load_mid (by rfl) _ _ rfl kb 0 rfl KY.toList _ (fun w h=>(fun w h=>rK w h) w h) huk rfl hi2) ?_;refine bc (i:=3) (x:=some 8) rfl fun K hK=>?_;go_simp;go_at_call 182;refine(HSC.out _).mono ?_;rintro e w4 ⟨rfl,hb4⟩;have E4:=zh (show Below W3.heap.size W3 w4 from (Below.refl _ W3).drew.trans (hb4.mono (by simp)));clear hb4;refine hK.out _ _ E4.out (fun hHeld=>?_);clear hK K
 try simp only[Act.put,qa,qb,qc]
 refine ed (i:=4) (x:=some 9) (v:=.agg (BX++KS)) rfl (.inl ⟨by rfl,fun W hW=>(by have hcb:=HCB.out W;simp[execOp,Act.eval,hcb])⟩) ?_;refine bc (i:=5) (x:=some 10) rfl fun K hK=>?_;go_simp;refine hK.out _ _ (E4.out.alloc E4.out.size _) (fun hHeld=>?_);clear hK K
 try simp only[Act.put,qa,qb,qc]
 refine dF (i:=6) (x:=some 2) (v:=.pointer (some ⟨w4.heap.size,0,none⟩)) rfl ?_;refine wpAnyH_done (by kernel_rfl) ?_ _;go_wp2;go_ret
 exact⟨_,rfl,HCI.out _ _ (ae.new _ _ _),ba D3.out.size E4.out.size,(D3.out.trans (E4.out.mono D3.out.size)).alloc (ba D3.out.size E4.out.size) _⟩
theorem vR (g:Nat) (key:Nat->Nat) (w:World) (h:cT w g key):Calls Tryz.prog 185 #[.pointer (some ⟨g,0,none⟩)] w fun e w'=>e=.returned (.pointer (some ⟨g,0,none⟩))/\w=w':=by
 have c0:w.cell? ⟨g,0,none⟩=some (.int .u8 99):=(h.box (x:=0) (by decide)).trans (by rw[uj];rfl);clear h;go_enter Tryz.func185,Tryz.ntmps185;go_wp2;go_ret
 exact⟨rfl,rfl⟩
def kA:Array Value:=#[.func (.func 187) #[] #[],.func (.func 188) #[] #[],.func (.func 189) #[] #[],.func (.func 186) #[] #[]]
def bJ (key:Nat->Nat) (n:Nat) (b:Nat->Nat) (k:Nat):Nat->Nat:=if k=0 then b else if k=1 then my b else if k=2 then fV (my b) else if k=3 then kP n (fV (my b)) else nW (aX fX key) n (kP n (fV (my b)))
theorem tB {key b:Nat->Nat} {n:Nat} (hk:br key) (hb:br b) (k:Nat):br (bJ key n b k):=by
 unfold bJ
 split
 ·exact hb
 split
 ·exact iE b
 split
 ·exact gg (iE b)
 split
 ·exact mg n (gg (iE b))
 ·exact mN n (fun i hi=>eK (fi 255) hk n i hi) (mg n (gg (iE b)))
theorem vn (w:World):(Instr.index 281 (.agg kA) (.int .i64 0)).run Tryz.prog w=.ok (.func (.func 187) #[] #[]) w:=by kernel_rfl
theorem vw (w:World):(Instr.index 281 (.agg kA) (.int .i64 1)).run Tryz.prog w=.ok (.func (.func 188) #[] #[]) w:=by kernel_rfl
theorem uT (w:World):(Instr.index 281 (.agg kA) (.int .i64 2)).run Tryz.prog w=.ok (.func (.func 189) #[] #[]) w:=by kernel_rfl
theorem uV (w:World):(Instr.index 281 (.agg kA) (.int .i64 3)).run Tryz.prog w=.ok (.func (.func 186) #[] #[]) w:=by kernel_rfl
theorem uW:(Tryz.prog.info? 281).map (·.size)=some kA.size:=by kernel_rfl
theorem gP (key b:Nat->Nat) (hk:br key) (hb:br b) (cg:Nat) (w:World) (h:cT w cg key) :
  Calls Tryz.prog 142 #[.pointer (some ⟨cg,0,none⟩),.agg (ar b)] w fun e w'=>e=.returned (.agg (ar (gn key b)))/\Below w.heap.size w w':=by
 have HCI:=zh h;have HSL:=zh (fun n (hn:br (ep (aX fX key) b n)) k=>tB (n:=n+1) hk hn k);have HRL:=zh (fun n=>ki (keys:=aX fX key) (fun n i hi=>eK (fi 255) hk n i hi) hb n);have HK:=zh hk;have HAD:=zh (fun V (hV:cT V cg key)=>tc b hb cg key hk 0 (by decide) V hV);have HSB:=zh (aD b);have HSK:Hid ((Tryz.prog.info? 23).map (·.size)=some (ar b).size):=zh (by rw[ah];kernel_rfl);have HS16:Hid (∀c,(Tryz.prog.info? 23).map (·.size)=some (ar c).size):=zh (fun c=>by rw[ah];kernel_rfl);obtain⟨ZB,hZB⟩:∃ZB:Array Value,ZB=#[.int .u8 0,.int .u8 0,.int .u8 0,.int .u8 0,.int .u8 0,.int .u8 0,.int .u8 0,.int .u8 0,.int .u8 0,.int .u8 0,.int .u8 0,.int .u8 0,.int .u8 0,.int .u8 0,.int .u8 0,.int .u8 0]:=⟨_,rfl⟩
 have HZS:Hid (∀c,ZB.size=(ar c).size):=zh (fun c=>by rw[hZB,ah];rfl);have HZB:=zh hZB;obtain⟨BA,hBA⟩:=af (ar b)
 obtain⟨E,hE⟩:∃E:(Nat->Nat)->Array Value,E=ar:=⟨_,rfl⟩
 have HEE:=zh hE;have HF:=zh uW;obtain⟨FA,hFA⟩:=af kA
 have ix0:=vn;have ix1:=vw;have ix2:=uT;have ix3:=uV;have HFA:=zh (hFA.trans (show kA=#[.func (.func 187) #[] #[],.func (.func 188) #[] #[],.func (.func 189) #[] #[],.func (.func 186) #[] #[]]from rfl));rw[<-hFA]at ix0 ix1 ix2 ix3 HF;have HBA:=zh hBA;rw[<-hBA]at HAD HSK;rw[<-hBA];clear hZB hBA hE hk hb h hFA;go_enter Tryz.func142,Tryz.ntmps142;go_upto_region 1 with (fail)
 obtain⟨p0,hp0⟩:=af w.heap.size
 refine ag (fun V=>ae V p0 23 BA/\ae V (p0+1) 23 ZB/\cT V cg key/\Below w.heap.size w V) ⟨by rw[hp0];exact(aq _ _ _ _ rfl).alloc _,by rw[hp0,HZB.out];exact aq _ _ _ _ (by simp),HCI.out.below ((bM _).alloc (by simp) _),(bM _).alloc (by simp) _⟩ ?_;rintro W1 ⟨b1,b2,b3,b4⟩;have B1:=zh b1;have B2:=zh b2;have B3:=zh b3;have B4:=zh b4;have HOW:=zh (vR cg key W1 b3);have HP0:=zh hp0;rw[<-hp0];clear b1 b2 b3 b4 hp0 HCI;go_upto_region 2 with (go_at_call 185;refine(HOW.out).mono ?_;rintro e w2 ⟨rfl,rfl⟩)
 have HA1:=zh (HAD.out W1 B3.out);obtain⟨S0,hS0⟩:=af (ar (nW (aX fX key) 0 b))
 have HSZ0:Hid ((Tryz.prog.info? 271).map (·.size)=some S0.size):=zh (by rw[hS0];exact aD _);have HO0:Hid (S0.all (·.oneCell')=true):=zh (by rw[hS0];exact aI _);have HZ0:Hid (ZB.size=S0.size):=zh (by rw[hS0];exact HZS.out _);have HS0:=zh hS0;rw[<-hS0]at HA1;clear hS0;go_upto_region 3 with (first
  | (refine wpList_load_row rfl _ _ rfl p0 rfl 23 BA (0,0) _ B1.out Tryz.underlying23 rfl HSK.out ?_)
  | (go_at_call 186;refine(HA1.out).mono ?_;rintro e w4 ⟨rfl,hb4⟩;have C2:=zh (B2.out.below hb4 B2.out.lt);have C3:=zh (B3.out.below hb4);have C4:=zh (B4.out.trans (hb4.mono B4.out.size));clear hb4)
  | (refine wpList_store_row rfl _ _ _ rfl w4.heap.size S0 rfl rfl 271 ZB (by rw[HZB.out];exact ae.new _ _ _) HSZ0.out HZ0.out HO0.out ?_))
 obtain⟨sb,hsb⟩:=af w4.heap.size
 refine ag (fun V=>ae V sb 271 S0/\ae V (p0+1) 23 ZB/\cT V cg key/\Below w.heap.size w V) ⟨by rw[hsb];exact setRow_heap _ _ ZB S0 271 (0,0) (by rw[HZB.out];exact ae.new _ _ _),(setRow_other _ _ _ _ (by have:=C2.out.lt;omega)).trans (C2.out.alloc _),(setRow_other _ _ _ _ (by have:=ae.lt C3.out;omega)).trans (ae.alloc C3.out _),aj (C4.out.alloc C4.out.size _) C4.out.size _⟩ ?_;rintro W5 ⟨b1,b2,b3,b4⟩;have D1:=zh b1;have D2:=zh b2;have D3:=zh b3;have D4:=zh b4;have HSB0:=zh (show w.heap.size<=sb/\p0+1 < sb by have:=C4.out.size;have:=C2.out.lt;omega);rw[<-hsb];clear b1 b2 b3 b4 hsb B1 B2 B3 B4 C2 C3 C4 HA1;go_upto_region 4 with (fail)
 try rw[show(#[.func (.func 187) #[] #[],.func (.func 188) #[] #[],.func (.func 189) #[] #[],.func (.func 186) #[] #[]]:Array Value)=FA from HFA.out.symm]
 obtain⟨fb,hfb⟩:=af W5.heap.size
 refine ag (fun V=>ae V sb 271 S0/\ae V (p0+1) 23 ZB/\cT V cg key/\ae V fb 281 FA/\Below w.heap.size w V) ⟨D1.out.alloc _,D2.out.alloc _,ae.alloc D3.out _,by rw[hfb];exact ae.new _ _ _,D4.out.alloc D4.out.size _⟩ ?_;rintro W6 ⟨b1,b2,b3,b4,b5⟩;have E1:=zh b1;have E2:=zh b2;have E3:=zh b3;have E4:=zh b4;have E5:=zh b5;have HFB:=zh (show sb < fb by have:=D1.out.lt;omega);rw[<-hfb];clear b1 b2 b3 b4 b5 hfb D1 D2 D3 D4;go_wp2;go_loopw [7] (fun v7 wr=>∃m n:Nat,m<=10/\n=m+1/\v7=.int .i64 n/\ae wr sb 271 (E (ep (aX fX key) b m))/\ae wr (p0+1) 23 ZB/\cT wr cg key/\ae wr fb 281 FA/\Below w.heap.size w wr) (fun v7 _=>11-(intOf v7).toNat)
 case atStart=>exact⟨0,1,by omega,rfl,rfl,by rw[HEE.out];have:=E1.out;rw[HS0.out]at this;exact this,E2.out,E3.out,E4.out,E5.out⟩
 case round=>
  clear E1 E2 E3 E4 E5;obtain⟨m,n,hm,hn,rfl,hB,hR,hC,hA,hb⟩:=hrel;have HB:=zh hB;have HR:=zh hR;have HC:=zh hC;have HA:=zh hA;have HBW:=zh hb;have HN:=zh hn;clear hB hR hC hA hb hn;by_cases hlt:m < 10
  ·have n10:(n:Int)<=10:=by have:=HN.out;omega
   have nn:n < 11:=by omega
   have n0:(0:Int)<=(n:Int):=by omega
   obtain⟨B,hBq⟩:=af (ep (aX fX key) b m)
   have HSn:Hid (ep (aX fX key) b n=bJ key n B 4):=zh (by rw[HN.out,hBq];rfl);have HBL:Hid (∀k,br (bJ key n B k)):=zh (fun k=>by rw[hBq,HN.out];exact HSL.out m (HRL.out m) k);rw[<-hBq]at HB;clear hBq hm hlt;go_wp2_with (refine wpList_load_row rfl _ _ rfl fb rfl 281 FA (0,0) _ HA.out Tryz.underlying281 rfl HF.out ?_);go_loopw [21] (fun v wr=>∃k:Nat,k<=4/\v=.int .i64 k/\ae wr sb 271 (E (bJ key n B k))/\ae wr (p0+1) 23 ZB/\cT wr cg key/\ae wr fb 281 FA/\Below w.heap.size w wr) (fun v _=>4-(intOf v).toNat)
   case atStart=>exact⟨0,by omega,rfl,HB.out,HR.out,HC.out,HA.out,HBW.out⟩
   case round=>
    clear HB HR HC HA HBW;obtain⟨k,hk,rfl,hB,hR,hC,hA,hb⟩:=hrel;have HB:=zh hB;have HR:=zh hR;have HC:=zh hC;have HA:=zh hA;have HBW:=zh hb;clear hB hR hC hA hb;by_cases hlt:k < 4
    ·have HX1:Hid ((Tryz.prog.info? 271).map (·.size)=some (E (bJ key n B k)).size):=zh (by rw[HEE.out];exact aD _);have HX2:Hid ((Tryz.prog.info? 271).map (·.size)=some (E (bJ key n B (k+1))).size):=zh (by rw[HEE.out];exact aD _);have HX3:Hid ((E (bJ key n B (k+1))).all (·.oneCell')=true):=zh (by rw[HEE.out];exact aI _);have HX4:Hid ((E (bJ key n B k)).size=(E (bJ key n B (k+1))).size):=zh (by rw[HEE.out,ah,ah]);rcases (by omega:k=0\/k=1\/k=2\/k=3)with rfl | rfl | rfl | rfl
     ·have HST:Hid (Calls Tryz.prog 187 #[.pointer (some ⟨cg,0,none⟩),.agg (E (bJ key n B 0)),.int .i64 n] wr fun e w'=>e=.returned (.agg (E (bJ key n B 1)))/\Below wr.heap.size wr w'):=zh (by rw[HEE.out];exact xB _ (HBL.out 0) cg key n wr HC.out);obtain⟨X,hX⟩:=af (E (bJ key n B 0))
      obtain⟨Y,hY⟩:=af (E (bJ key n B 1))
      have HY:=zh hY;rw[<-hX]at HX1 HX4 HB HST;rw[<-hY]at HX2 HX3 HX4 HST;clear hX hY hlt hk;go_wp2_with (first
       | (refine wpList_load_row rfl _ _ rfl sb rfl 271 X (0,0) _ HB.out Tryz.underlying271 rfl HX1.out ?_)
       | (go_at_call 187;refine(HST.out).mono ?_;rintro e w4 ⟨rfl,hb4⟩;have C1:=zh (HB.out.below hb4 HB.out.lt);have C2:=zh (HR.out.below hb4 HR.out.lt);have C3:=zh (HC.out.below hb4);have C4:=zh (HA.out.below hb4 HA.out.lt);have C5:=zh (HBW.out.trans (hb4.mono HBW.out.size));clear hb4)
       | (refine wpList_store_row rfl _ _ _ rfl sb Y rfl rfl 271 X C1.out HX2.out HX4.out HX3.out ?_))
      go_roundw
      case rel=>exact⟨1,by omega,rfl,by rw[<-HY.out];exact setRow_heap _ _ X Y 271 (0,0) C1.out,(setRow_other _ _ _ _ (by have:=HSB0.out;omega)).trans C2.out,(setRow_other _ _ _ _ (fun e=>cu C1.out C3.out (by decide) e.symm)).trans C3.out,(setRow_other _ _ _ _ (by have:=HFB.out;omega)).trans C4.out,aj C5.out (by have:=HSB0.out;omega) _⟩
      case measure=>simp[intOf]
     ·have HST:Hid (Calls Tryz.prog 188 #[.pointer (some ⟨cg,0,none⟩),.agg (E (bJ key n B 1)),.int .i64 n] wr fun e w'=>e=.returned (.agg (E (bJ key n B 2)))/\Below wr.heap.size wr w'):=zh (by rw[HEE.out];exact tS _ (HBL.out 1) _ n wr);obtain⟨X,hX⟩:=af (E (bJ key n B 1))
      obtain⟨Y,hY⟩:=af (E (bJ key n B 2))
      have HY:=zh hY;rw[<-hX]at HX1 HX4 HB HST;rw[<-hY]at HX2 HX3 HX4 HST;clear hX hY hlt hk;go_wp2_with (first
       | (refine wpList_load_row rfl _ _ rfl sb rfl 271 X (0,0) _ HB.out Tryz.underlying271 rfl HX1.out ?_)
       | (go_at_call 188;refine(HST.out).mono ?_;rintro e w4 ⟨rfl,hb4⟩;have C1:=zh (HB.out.below hb4 HB.out.lt);have C2:=zh (HR.out.below hb4 HR.out.lt);have C3:=zh (HC.out.below hb4);have C4:=zh (HA.out.below hb4 HA.out.lt);have C5:=zh (HBW.out.trans (hb4.mono HBW.out.size));clear hb4)
       | (refine wpList_store_row rfl _ _ _ rfl sb Y rfl rfl 271 X C1.out HX2.out HX4.out HX3.out ?_))
      go_roundw
      case rel=>exact⟨2,by omega,rfl,by rw[<-HY.out];exact setRow_heap _ _ X Y 271 (0,0) C1.out,(setRow_other _ _ _ _ (by have:=HSB0.out;omega)).trans C2.out,(setRow_other _ _ _ _ (fun e=>cu C1.out C3.out (by decide) e.symm)).trans C3.out,(setRow_other _ _ _ _ (by have:=HFB.out;omega)).trans C4.out,aj C5.out (by have:=HSB0.out;omega) _⟩
      case measure=>simp[intOf]
     ·have HST:Hid (Calls Tryz.prog 189 #[.pointer (some ⟨cg,0,none⟩),.agg (E (bJ key n B 2)),.int .i64 n] wr fun e w'=>e=.returned (.agg (E (bJ key n B 3)))/\Below wr.heap.size wr w'):=zh (by rw[HEE.out];exact wU _ (HBL.out 2) _ n wr);obtain⟨X,hX⟩:=af (E (bJ key n B 2))
      obtain⟨Y,hY⟩:=af (E (bJ key n B 3))
      have HY:=zh hY;rw[<-hX]at HX1 HX4 HB HST;rw[<-hY]at HX2 HX3 HX4 HST;clear hX hY hlt hk;go_wp2_with (first
       | (refine wpList_load_row rfl _ _ rfl sb rfl 271 X (0,0) _ HB.out Tryz.underlying271 rfl HX1.out ?_)
       | (go_at_call 189;refine(HST.out).mono ?_;rintro e w4 ⟨rfl,hb4⟩;have C1:=zh (HB.out.below hb4 HB.out.lt);have C2:=zh (HR.out.below hb4 HR.out.lt);have C3:=zh (HC.out.below hb4);have C4:=zh (HA.out.below hb4 HA.out.lt);have C5:=zh (HBW.out.trans (hb4.mono HBW.out.size));clear hb4)
       | (refine wpList_store_row rfl _ _ _ rfl sb Y rfl rfl 271 X C1.out HX2.out HX4.out HX3.out ?_))
      go_roundw
      case rel=>exact⟨3,by omega,rfl,by rw[<-HY.out];exact setRow_heap _ _ X Y 271 (0,0) C1.out,(setRow_other _ _ _ _ (by have:=HSB0.out;omega)).trans C2.out,(setRow_other _ _ _ _ (fun e=>cu C1.out C3.out (by decide) e.symm)).trans C3.out,(setRow_other _ _ _ _ (by have:=HFB.out;omega)).trans C4.out,aj C5.out (by have:=HSB0.out;omega) _⟩
      case measure=>simp[intOf]
     ·have HST:Hid (Calls Tryz.prog 186 #[.pointer (some ⟨cg,0,none⟩),.agg (E (bJ key n B 3)),.int .i64 n] wr fun e w'=>e=.returned (.agg (E (bJ key n B 4)))/\Below wr.heap.size wr w'):=zh (by rw[HEE.out];exact tc _ (HBL.out 3) cg key HK.out n nn wr HC.out);obtain⟨X,hX⟩:=af (E (bJ key n B 3))
      obtain⟨Y,hY⟩:=af (E (bJ key n B 4))
      have HY:=zh hY;rw[<-hX]at HX1 HX4 HB HST;rw[<-hY]at HX2 HX3 HX4 HST;clear hX hY hlt hk;go_wp2_with (first
       | (refine wpList_load_row rfl _ _ rfl sb rfl 271 X (0,0) _ HB.out Tryz.underlying271 rfl HX1.out ?_)
       | (go_at_call 186;refine(HST.out).mono ?_;rintro e w4 ⟨rfl,hb4⟩;have C1:=zh (HB.out.below hb4 HB.out.lt);have C2:=zh (HR.out.below hb4 HR.out.lt);have C3:=zh (HC.out.below hb4);have C4:=zh (HA.out.below hb4 HA.out.lt);have C5:=zh (HBW.out.trans (hb4.mono HBW.out.size));clear hb4)
       | (refine wpList_store_row rfl _ _ _ rfl sb Y rfl rfl 271 X C1.out HX2.out HX4.out HX3.out ?_))
      go_roundw
      case rel=>exact⟨4,by omega,rfl,by rw[<-HY.out];exact setRow_heap _ _ X Y 271 (0,0) C1.out,(setRow_other _ _ _ _ (by have:=HSB0.out;omega)).trans C2.out,(setRow_other _ _ _ _ (fun e=>cu C1.out C3.out (by decide) e.symm)).trans C3.out,(setRow_other _ _ _ _ (by have:=HFB.out;omega)).trans C4.out,aj C5.out (by have:=HSB0.out;omega) _⟩
      case measure=>simp[intOf]
    ·obtain rfl:k=4:=by omega
     have n1:¬(4:Int) < 4:=by omega
     rw[<-HSn.out]at HB;clear HSn HBL;go_wp2;go_roundw
     case rel=>exact⟨m+1,n+1,by have:=HN.out;omega,by have:=HN.out;omega,by go_num,by rw[<-HN.out];exact HB.out,HR.out,HC.out,HA.out,HBW.out⟩
     case measure=>simp[intOf];omega
  ·obtain rfl:m=10:=by omega
   have hn:=HN.out;subst hn;obtain⟨R,hR⟩:=af (E (ep (aX fX key) b 10))
   have HRQ:Hid (ar (gn key b)=R):=zh (by rw[hR,HEE.out];rfl);have HX1:Hid ((Tryz.prog.info? 271).map (·.size)=some R.size):=zh (by rw[hR,HEE.out];exact aD _);have HX2:Hid ((Tryz.prog.info? 23).map (·.size)=some R.size):=zh (by rw[hR,HEE.out];exact HS16.out _);have HX3:Hid (R.all (·.oneCell')=true):=zh (by rw[hR,HEE.out];exact aI _);have HX4:Hid (ZB.size=R.size):=zh (by rw[hR,HEE.out];exact HZS.out _);rw[<-hR]at HB;clear hR hm hlt;have n1:¬(11:Int)<=10:=by omega
   go_wp2_with (first
    | (refine wpList_load_row rfl _ _ rfl sb rfl 271 R (0,0) _ HB.out Tryz.underlying271 rfl HX1.out ?_)
    | (refine wpList_store_row rfl _ _ _ rfl (p0+1) R rfl rfl 23 ZB HR.out HX2.out HX4.out HX3.out ?_))
   refine bodyPost_ret (v:=.agg R) (results_cell_row (g:=p0+1) (t:=23) (fr:=(0,0)) Tryz.results142 _ _ R _ rfl (setRow_heap wr (p0+1) ZB R 23 (0,0) HR.out) Tryz.underlying23 rfl HX2.out) rfl ⟨by rw[HRQ.out],?_⟩
   exact aj HBW.out (by rw[HP0.out];omega) _
def bA (n:Nat) (f:Nat->Nat):Array Value:=Array.ofFn (n:=n) fun j=>.int .u8 ((f j.1:Nat):Int)
theorem cw (n:Nat) (f:Nat->Nat):(bA n f).size=n:=by simp[bA]
theorem gZ (n:Nat) (f:Nat->Nat) {j:Nat} (h:j < n):(bA n f)[j]? = some (.int .u8 ((f j:Nat):Int)):=by simp[bA,h]
theorem i4 (n:Nat) (f:Nat->Nat):(bA n f).all (·.oneCell')=true:=by
 rw[Array.all_eq_true];intro i hi;simp only[bA,Array.getElem_ofFn]
 rfl
theorem pW {n:Nat} {f:Nat->Nat} {cs:Array Value} (hs:cs.size=n) (h:∀j,j < n->cs[j]? = some (.int .u8 ((f j:Nat):Int))):cs=bA n f:=by
 apply Array.ext_getElem?;intro j;by_cases hj:j < n
 ·rw[h j hj,gZ n f hj]
 ·rw[Array.getElem?_eq_none (by omega),Array.getElem?_eq_none (by rw[cw];omega)]
theorem gX {n:Nat} {f g:Nat->Nat} (h:∀j,j < n->f j=g j):bA n f=bA n g:=pW (cw n f) (fun j hj=>by rw[gZ n f hj,h j hj])
theorem xW (n:Nat) (f:Nat->Nat) (i x:Nat) (hi:i < n):(bA n f).setIfInBounds i (.int .u8 (x:Int))=bA n (eA f i x):=by
 refine pW (by simp[bA]) fun j hj=>?_;rw[Array.getElem?_setIfInBounds,cw];by_cases e:i=j
 ·subst e;rw[if_pos rfl,if_pos hi];simp[eA]
 ·have e2:¬j=i:=fun h=>e h.symm;rw[if_neg e,gZ n f hj];simp[eA,e2]
theorem uc (f:Nat->Nat):ar f=bA 16 f:=rfl
def eo (v k:Nat):Nat->Nat:=fun j=>if j < k then cI v j else 0
theorem lF (f:Nat->Nat):(Tryz.prog.info? 187).map (·.size)=some (bA 8 f).size:=by rw[cw];kernel_rfl
theorem qL (v:Nat) (hv:v < 18446744073709551616) (w:World):Calls Tryz.prog 136 #[.int .u64 v] w fun e w'=>e=.returned (.agg (bA 8 (cI v)))/\Below w.heap.size w w':=by
 have HE:Hid (bA 8 (eo v 8)=bA 8 (cI v)):=zh (gX fun j hj=>by unfold eo;rw[if_pos hj]);have H0:Hid (bA 8 (eo v 0)=#[.int .u8 0,.int .u8 0,.int .u8 0,.int .u8 0,.int .u8 0,.int .u8 0,.int .u8 0,.int .u8 0]):=zh (by rw[show eo v 0=fun _=>0 from by funext j;unfold eo;rw[if_neg (by omega)]];rfl);have HS:=zh (fun k (hk:k < 8)=>(show(bA 8 (eo v k)).setIfInBounds k (.int .u8 (cI v k:Nat))=bA 8 (eo v (k+1)) by
  rw[xW 8 _ _ _ hk];refine gX fun j hj=>?_;unfold eA eo;by_cases e:j=k
  ·subst e;rw[if_pos rfl,if_pos (by omega)]
  ·rw[if_neg e];by_cases h2:j < k
   ·rw[if_pos h2,if_pos (by omega)]
   ·rw[if_neg h2,if_neg (by omega)]))
 have HV:Hid (v < 18446744073709551616):=zh hv;clear hv;go_enter Tryz.func136,Tryz.ntmps136;go_upto_region 1 with (fail)
 obtain⟨g,hg⟩:=af w.heap.size
 refine ag (fun V=>ae V g 187 (bA 8 (eo v 0))/\Below w.heap.size w V) ⟨by rw[hg,H0.out];exact ae.new _ _ _,bM _⟩ ?_;rintro W1 ⟨b1,b2⟩;have B1:=zh b1;have B2:=zh b2;have HG:=zh hg;rw[<-hg];clear b1 b2 hg;go_wp2;go_loopw [4] (fun x wr=>∃k:Nat,k<=8/\x=.int .i64 k/\ae wr g 187 (bA 8 (eo v k))/\Below w.heap.size w wr) (fun x _=>8-(intOf x).toNat)
 case atStart=>exact⟨0,by omega,rfl,B1.out,B2.out⟩
 case round=>
  clear B1 B2;obtain⟨k,hk,rfl,hB,hb⟩:=hrel;have HB:=zh hB;have HBW:=zh hb;clear hB hb;by_cases hlt:k < 8
  ·have k0:(0:Int)<=(k:Int):=by omega
   have k1:(k:Int) < 8:=by omega
   have s0:(0:Int)<=56-8*(k:Int):=by omega
   have s1:((56:Int)-8*(k:Int)).toNat=56-8*k:=by omega
   have c0:wr.cell? ⟨g,k,none⟩=some (.int .u8 (eo v k k:Nat)):=(HB.out.cell k).trans (gZ 8 _ hlt);have f0:=HB.out.frozen k;have hq:((v:Int) / 2 ^ (56-8*k)) % 256=((cI v k:Nat):Int):=by
    unfold cI;rw[Int.natCast_emod,Int.natCast_ediv,Int.natCast_pow]
    rfl
   have HSk:=zh (HS.out k hlt);go_wp2;go_roundw
   case rel=>
    refine⟨k+1,by omega,by go_num,?_,HBW.out.setCell (p:=⟨g,k,none⟩) (by rw[HG.out];exact Nat.le_refl _) _⟩;rw[<-HSk.out]
    exact HB.out.set_ k _
   case measure=>simp[intOf];omega
  ·obtain rfl:k=8:=by omega
   have HX:Hid ((Tryz.prog.info? 187).map (·.size)=some (bA 8 (eo v 8)).size):=zh (lF _);have HO:=zh (i4 8 (eo v 8));obtain⟨X,hX⟩:=af (bA 8 (eo v 8))
   rw[<-hX]at HB HX HO HE;clear hX;have n1:¬(8:Int) < 8:=by omega
   go_wp2_with (first
    | (refine wpList_load_row rfl _ _ rfl g rfl 187 X (0,0) _ HB.out Tryz.underlying187 rfl HX.out ?_)
    | (refine wpList_store_row rfl _ _ _ rfl g X rfl rfl 187 X HB.out HX.out rfl HO.out ?_))
   refine bodyPost_ret (v:=.agg X) (results_cell_row (g:=g) (t:=187) (fr:=(0,0)) Tryz.results136 _ _ X _ rfl (setRow_heap wr g X X 187 (0,0) HB.out) Tryz.underlying187 rfl HX.out) rfl ⟨by rw[HE.out],?_⟩
   exact aj HBW.out (by rw[HG.out];exact Nat.le_refl _) _
theorem xD (ct b d:Nat) (hc:ct < 4294967296) (hb:b < 32) (hd:d < 2):bits .or .u64 (bits .or .u64 ((ct:Int)*4294967296) ((b:Int)*134217728)) ((d:Int)*67108864)=((oF ct b d:Nat):Int):=by
 have e1:(ct:Int)*4294967296=((ct*2 ^ 32:Nat):Int):=by omega
 have e2:(b:Int)*134217728=((b*2 ^ 27:Nat):Int):=by omega
 have e3:(d:Int)*67108864=((d*2 ^ 26:Nat):Int):=by omega
 rw[e1,e2,e3,u64_or_nat _ _ (by omega) (by omega),eQ _ _ _ (by omega)];rw[show ct*2 ^ 32+b*2 ^ 27=(ct*2 ^ 5+b)*2 ^ 27 by omega,u64_or_nat _ _ (by omega) (by omega),eQ _ _ _ (by omega)];unfold oF;omega
theorem iP (ct b d:Nat) (hc:ct < 4294967296) (hb:b < 32) (hd:d < 2) (w:World):Calls Tryz.prog 114 #[.int .u32 ct,.int .i64 b,.int .i64 d] w fun e w'=>e=.returned (.tuple #[.agg (bA 8 (cI (oF ct b d))),.int .i64 0])/\Below w.heap.size w w':=by
 have c0:(0:Int)<=(ct:Int):=by omega
 have c1:(ct:Int) < 4294967296:=by omega
 have b0:¬(b:Int) < 0:=by omega
 have b1:¬(31:Int) < (b:Int):=by omega
 have HP:=zh (xD ct b d hc hb hd);have HH:=zh (fun V=>qL (oF ct b d) (xA hc hb hd) V);obtain⟨ZB,hZB⟩:∃ZB:Array Value,ZB=#[.int .u8 0,.int .u8 0,.int .u8 0,.int .u8 0,.int .u8 0,.int .u8 0,.int .u8 0,.int .u8 0]:=⟨_,rfl⟩
 have HZB:=zh hZB;obtain⟨X,hX⟩:=af (bA 8 (cI (oF ct b d)))
 have HX:Hid ((Tryz.prog.info? 187).map (·.size)=some X.size):=zh (by rw[hX];exact lF _);have HO:Hid (X.all (·.oneCell')=true):=zh (by rw[hX];exact i4 _ _);have HZX:Hid (ZB.size=X.size):=zh (by rw[hX,hZB,cw];rfl);rw[<-hX]at HH ⊢;clear hX hZB;rcases (by omega:d=0\/d=1)with rfl | rfl
 all_goals
  go_enter Tryz.func114,Tryz.ntmps114;go_upto_region 1 with (fail)
  obtain⟨g,hg⟩:=af w.heap.size
  refine ag (fun V=>ae V g 187 ZB/\Below w.heap.size w V) ⟨by rw[hg,HZB.out];exact ae.new _ _ _,bM _⟩ ?_;rintro W1 ⟨B1,B2⟩;have C1:=zh B1;have C2:=zh B2;have HG:=zh hg;rw[<-hg];clear B1 B2 hg;go_wp2_with (fail)
  first
   | rw[show bits .or .u64 (bits .or .u64 ((ct:Int)*4294967296) ((b:Int)*134217728)) 0=_ from HP.out]
   | rw[show bits .or .u64 (bits .or .u64 ((ct:Int)*4294967296) ((b:Int)*134217728)) 67108864=_ from HP.out]
  refine(HH.out _).mono ?_;rintro e w4 ⟨rfl,hb4⟩;have D1:=zh (C1.out.below hb4 C1.out.lt);have D2:=zh (C2.out.trans (hb4.mono C2.out.size));clear hb4;go_wp2_with (refine wpList_store_row rfl _ _ _ rfl g X rfl rfl 187 ZB D1.out HX.out HZX.out HO.out ?_);refine bodyPost_ret (v:=.tuple #[.agg X,.int .i64 0]) (aO (g:=g) (t:=187) (fr:=(0,0)) Tryz.results114 _ _ X _ rfl (ae.setRow D1.out) Tryz.underlying187 rfl HX.out _ rfl) rfl ⟨rfl,aj D2.out (by rw[HG.out];exact Nat.le_refl _) _⟩
def mG (f:Nat->Nat) (o m:Nat) (h:Nat->Nat):Nat->Nat:=fun j=>if o<=j/\j < o+m then h (j-o) else f j
theorem oB {P:Program} (w:World) (dT sT ty elem:TypeId) (g o m dCap sb so sLen sCap N:Nat) (dLen:Nat) (t:TypeId) (f h:Nat->Nat)
  (hu:P.underlying dT=some (.slice elem)) (hs:(P.info? elem).map (·.size)=some 1) (hg:ae w g t (bA N f)) (hm:Nat.min sLen dLen=m)
  (hsrc:∀j,j < m->w.cell? ⟨sb,so+j,none⟩=some (.int .u8 ((h j:Nat):Int))) (hfit:o+m<=N) :
  (Builtin.copy_ #[dT,sT] ty #[.slice (some ⟨g,o,none⟩) dLen dCap,.slice (some ⟨sb,so,none⟩) sLen sCap]).run P w=.ok (.int .i64 m) (w.setRow g (bA N (mG f o m h))):=by
 have hl:((List.range m).map fun j=>Value.int .u8 ((h j:Nat):Int)).length=m:=by simp
 have:=run_copy_row (P:=P) w dT sT ty elem g o dLen dCap ⟨sb,so,none⟩ sLen sCap (bA N f) t ((List.range m).map fun j=>.int .u8 ((h j:Nat):Int)) hu hs hg (by rw[hl,hm])
  (fun j v hv=>by
   have hj:j < m:=by
    have:=(List.getElem?_eq_some_iff.1 hv).1
    rwa [hl]at this
   rw[Addr.add_mid,hsrc j hj];simpa[hj]using hv) (by rw[hl,cw];exact hfit) (fun v hv=>by obtain⟨j,_,rfl⟩:=List.mem_map.1 hv;rfl)
 rw[this,hl];congr 1;congr 1;refine pW ?_ (fun j hj=>?_)
 ·simp[cw];omega
 ·rw[List.getElem?_toArray];have ht:((bA N f).toList.take o).length=o:=by rw[List.length_take,Array.length_toList,cw];omega
  rw[List.append_assoc];unfold mG;by_cases h1:j < o
  ·rw[List.getElem?_append_left (by omega),List.getElem?_take,if_pos h1,Array.getElem?_toList,gZ _ _ hj,if_neg (by omega)]
  ·rw[List.getElem?_append_right (by omega),ht];by_cases h2:j < o+m
   ·rw[List.getElem?_append_left (by rw[hl];omega),if_pos ⟨by omega,h2⟩];simp[show j-o < m by omega]
   ·rw[List.getElem?_append_right (by rw[hl];omega),hl,List.getElem?_drop,show o+m+(j-o-m)=j by omega,Array.getElem?_toList,gZ _ _ hj,if_neg (by omega)]
theorem dU {P:Program} {ops:Array Oper} {rest:List Oper} {op:Oper} {a:Act} {w:World} {Q:Exit->Act->World->Prop} (hgd:op.guard=none) (d s:Operand) (dT sT:TypeId)
  (ho:op.op=.call { callee:=.builtin .copy,args:=#[d,s],argTypes:=#[dT,sT] }) (elem:TypeId) (g o m dCap sb so sLen sCap N dLen:Nat) (t:TypeId) (f h:Nat->Nat)
  (hd:a.eval d=.slice (some ⟨g,o,none⟩) dLen dCap) (hsv:a.eval s=.slice (some ⟨sb,so,none⟩) sLen sCap)
  (hu:P.underlying dT=some (.slice elem)) (hs:(P.info? elem).map (·.size)=some 1) (hg:ae w g t (bA N f)) (hm:Nat.min sLen dLen=m)
  (hsrc:∀j,j < m->w.cell? ⟨sb,so+j,none⟩=some (.int .u8 ((h j:Nat):Int))) (hfit:o+m<=N)
  (hK:wpList P ops Q rest (a.put op.dst (.int .i64 m)) (w.setRow g (bA N (mG f o m h)))):wpList P ops Q (op :: rest) a w:=
 wpList_plain hgd fun _ hK'=>by
  have hrun:=oB (P:=P) w dT sT op.type elem g o m dCap sb so sLen sCap N dLen t f h hu hs hg hm hsrc hfit;unfold Oper.wp execOp;simp only[ho,resolve,invoke,builtin,Sem.run_bind,Sem.run_pure,Result.andThen_ok,List.map_toArray,List.map_cons,List.map_nil,hd,hsv,hrun]
  exact hK' _ _ hK
theorem mO:(Tryz.prog.info? 5).map (·.size)=some 1:=by kernel_rfl
theorem ti (ct b d i:Nat):bA 16 (mG (mG (fun _=>0) 0 8 (cI (oF ct b d))) 8 8 (cI i))=ar (ju ct b d i):=by
 rw[uc];refine gX fun j hj=>?_;unfold mG ju;by_cases h:j < 8
 ·rw[if_neg (by omega),if_pos (by omega),if_pos h,Nat.sub_zero]
 ·rw[if_pos (by omega),if_neg h]
theorem tO (ct b d i:Nat) (hc:ct < 4294967296) (hb:b < 32) (hd:d < 2) (hi:i < 18446744073709551616) (w:World):Calls Tryz.prog 144 #[.int .u32 ct,.int .i64 b,.int .i64 d,.int .u64 i] w fun e w'=>e=.returned (.tuple #[.agg (ar (ju ct b d i)),.int .i64 0])/\Below w.heap.size w w':=by
 have HP:=zh (fun V=>iP ct b d hc hb hd V);have HH:=zh (fun V=>qL i hi V);have HPUT:=zh (ti ct b d i);obtain⟨ZB,hZB⟩:∃ZB:Array Value,ZB=#[.int .u8 0,.int .u8 0,.int .u8 0,.int .u8 0,.int .u8 0,.int .u8 0,.int .u8 0,.int .u8 0]:=⟨_,rfl⟩
 have HZB:=zh hZB;obtain⟨ZC,hZC⟩:∃ZC:Array Value,ZC=#[.int .u8 0,.int .u8 0,.int .u8 0,.int .u8 0,.int .u8 0,.int .u8 0,.int .u8 0,.int .u8 0,.int .u8 0,.int .u8 0,.int .u8 0,.int .u8 0,.int .u8 0,.int .u8 0,.int .u8 0,.int .u8 0]:=⟨_,rfl⟩
 have HZC:=zh (show ZC=bA 16 (fun _=>0)from hZC);have HZC':=zh hZC;obtain⟨hp,hhp⟩:=af (cI (oF ct b d))
 obtain⟨hi',hhi⟩:=af (cI i)
 rw[<-hhp]at HP HPUT;rw[<-hhi]at HH HPUT;obtain⟨X,hX⟩:=af (bA 8 hp)
 obtain⟨Y,hY⟩:=af (bA 8 hi')
 have HX:Hid ((Tryz.prog.info? 187).map (·.size)=some X.size):=zh (by rw[hX];exact lF _);have HOX:Hid (X.all (·.oneCell')=true):=zh (by rw[hX];exact i4 _ _);have HZX:Hid (ZB.size=X.size):=zh (by rw[hX,hZB,cw];rfl);have HY:Hid ((Tryz.prog.info? 187).map (·.size)=some Y.size):=zh (by rw[hY];exact lF _);have HOY:Hid (Y.all (·.oneCell')=true):=zh (by rw[hY];exact i4 _ _);have HZY:Hid (ZB.size=Y.size):=zh (by rw[hY,hZB,cw];rfl);have HXX:=zh hX;have HYY:=zh hY;obtain⟨R,hR⟩:=af (ar (ju ct b d i))
 have HR:Hid ((Tryz.prog.info? 23).map (·.size)=some R.size):=zh (by rw[hR,ah];kernel_rfl);have HRO:Hid (R.all (·.oneCell')=true):=zh (by rw[hR];exact aI _);rw[<-hX]at HP;rw[<-hY]at HH;rw[<-hR]at HPUT ⊢;clear hX hY hR hhp hhi hZB hZC;go_enter Tryz.func144,Tryz.ntmps144;go_upto_region 1 with (fail)
 obtain⟨g,hg⟩:=af w.heap.size
 refine ag (fun V=>ae V g 23 ZC/\Below w.heap.size w V) ⟨by rw[hg,HZC'.out];exact ae.new _ _ _,bM _⟩ ?_;rintro W1 ⟨B1,B2⟩;have C1:=zh B1;have C2:=zh B2;have HG:=zh hg;rw[<-hg];clear B1 B2 hg;go_upto_region 2 with (first
  | (go_at_call 114;refine(HP.out _).mono ?_;rintro e w4 ⟨rfl,hb4⟩;have D1:=zh (C1.out.below hb4 C1.out.lt);have D2:=zh (C2.out.trans (hb4.mono C2.out.size));clear hb4)
  | (refine wpList_store_row rfl _ _ _ rfl w4.heap.size X rfl rfl 187 ZB (by rw[HZB.out];exact ae.new _ _ _) HX.out HZX.out HOX.out ?_))
 obtain⟨pb,hpb⟩:=af w4.heap.size
 refine ag (fun V=>ae V g 23 ZC/\ae V pb 187 X/\Below w.heap.size w V) ⟨(setRow_other _ _ _ _ (by have:=D1.out.lt;omega)).trans (D1.out.alloc _),by rw[hpb];exact setRow_heap _ _ ZB X 187 (0,0) (by rw[HZB.out];exact ae.new _ _ _),aj (D2.out.alloc D2.out.size _) D2.out.size _⟩ ?_;rintro W2 ⟨B1,B2,B3⟩;have E1:=zh B1;have E2:=zh B2;have E3:=zh B3;have HPB:=zh (show g < pb by have:=D1.out.lt;omega);rw[<-hpb];clear B1 B2 B3 hpb C1 C2 D1 D2;go_upto_region 5 with (first
  | (go_at_call 136;refine(HH.out _).mono ?_;rintro e w5 ⟨rfl,hb4⟩;have F1:=zh (E1.out.below hb4 E1.out.lt);have F2:=zh (E2.out.below hb4 E2.out.lt);have F3:=zh (E3.out.trans (hb4.mono E3.out.size));clear hb4)
  | (refine wpList_store_row rfl _ _ _ rfl w5.heap.size Y rfl rfl 187 ZB (by rw[HZB.out];exact ae.new _ _ _) HY.out HZY.out HOY.out ?_))
 obtain⟨qb,hqb⟩:=af w5.heap.size
 refine ag (fun V=>ae V g 23 (bA 16 (fun _=>0))/\ae V pb 187 (bA 8 hp)/\ae V qb 187 (bA 8 hi')/\Below w.heap.size w V) ⟨by rw[<-HZC.out];exact(setRow_other _ _ _ _ (by have:=F1.out.lt;omega)).trans (F1.out.alloc _),by rw[<-HXX.out];exact(setRow_other _ _ _ _ (by have:=F2.out.lt;omega)).trans (F2.out.alloc _),by rw[hqb,<-HYY.out];exact setRow_heap _ _ ZB Y 187 (0,0) (by rw[HZB.out];exact ae.new _ _ _),aj (F3.out.alloc F3.out.size _) F3.out.size _⟩ ?_;rintro W3 ⟨B1,B2,B3,B4⟩;have G1:=zh B1;have G2:=zh B2;have G3:=zh B3;have G4:=zh B4;have HQB:=zh (show g < qb by have:=F1.out.lt;omega);rw[<-hqb];clear B1 B2 B3 B4 hqb E1 E2 E3 F1 F2 F3;go_still_tail 2,(by kernel_rfl)
 refine dU rfl _ _ 44 44 rfl 5 g 0 8 16 pb 0 8 8 16 8 23 (fun _=>0) hp rfl rfl Tryz.underlying44 mO G1.out rfl (fun j hj=>by rw[Nat.zero_add];exact(G2.out.cell j).trans (gZ 8 hp hj)) (by omega) ?_;refine ke (fun V=>ae V g 23 (bA 16 (mG (fun _=>0) 0 8 hp))/\ae V qb 187 (bA 8 hi')/\Below w.heap.size w V) ⟨setRow_heap _ g (bA 16 (fun _=>0)) _ 23 (0,0) G1.out,(setRow_other _ _ _ _ (by have:=HQB.out;omega)).trans G3.out,aj G4.out.drew (by rw[HG.out];exact Nat.le_refl _) _⟩ ?_;rintro W4 ⟨B1,B2,B3⟩;have I1:=zh B1;have I2:=zh B2;have I3:=zh B3;clear B1 B2 B3 G1 G2 G3 G4;go_wp2;go_still_tail 2,(by kernel_rfl)
 refine dU rfl _ _ 44 44 rfl 5 g 8 8 8 qb 0 8 8 16 8 23 _ hi' rfl rfl Tryz.underlying44 mO I1.out rfl (fun j hj=>by rw[Nat.zero_add];exact(I2.out.cell j).trans (gZ 8 hi' hj)) (by omega) ?_;refine ke (fun V=>ae V g 23 R/\Below w.heap.size w V) ⟨by rw[HPUT.out];exact setRow_heap _ g _ R 23 (0,0) I1.out,aj I3.out.drew (by rw[HG.out];exact Nat.le_refl _) _⟩ ?_;rintro W5 ⟨B1,B2⟩;have J1:=zh B1;have J2:=zh B2;clear B1 B2 I1 I2 I3;go_wp2_with (first
  | (refine wpList_load_row rfl _ _ rfl g rfl 23 R (0,0) _ J1.out Tryz.underlying23 rfl HR.out ?_)
  | (refine wpList_store_row rfl _ _ _ rfl g R rfl rfl 23 R J1.out HR.out rfl HRO.out ?_))
 refine bodyPost_ret (v:=.tuple #[.agg R,.int .i64 0]) (aO (g:=g) (t:=23) (fr:=(0,0)) Tryz.results144 _ _ R _ rfl (ae.setRow J1.out) Tryz.underlying23 rfl HR.out _ rfl) rfl ⟨rfl,aj J2.out (by rw[HG.out];exact Nat.le_refl _) _⟩
end Go.Proofs.YtiiojpnckbglcaaGreat
namespace Go.Proofs.YtiiojpnckbglcaaGreat
open Go.RowKit Go.Shelf
attribute [local go_sem] Oper.semAt_some
structure fH (ob ab:Nat) (A B:World):Prop where
 size:A.heap.size<=B.heap.size
 same:∀b cs t fr,b ≠ ob->b ≠ ab->A.heap[b]? = some (.cells cs t fr)->B.heap[b]? = some (.cells cs t fr)
theorem fH.trans {ob ab:Nat} {A B C:World} (h:fH ob ab A B) (k:fH ob ab B C):fH ob ab A C:=⟨ba h.size k.size,fun b cs t fr h1 h2 h3=>k.same b cs t fr h1 h2 (h.same b cs t fr h1 h2 h3)⟩
theorem fH.blk {ob ab:Nat} {A B:World} (h:fH ob ab A B) {b:Nat} {t:TypeId} {cs:Array Value} (hB:ae A b t cs) (h1:b ≠ ob) (h2:b ≠ ab):ae B b t cs:=h.same b cs t _ h1 h2 hB
theorem ry {w:World} {ob ab:Nat} (W:World) (l:Nat) (o o':Obj) (_:w.heap.size<=l) (h:W.heap[l]? = some o) (ho:o.isCells=false) (_:o.isWalk=false):fH ob ab W (W.putObj l o'):=
 ⟨by rw[World.putObj_size];exact Nat.le_refl _,fun b cs t fr _ _ hb=>(World.putObj_heap_other (by rintro rfl;rw[h]at hb;cases hb;cases ho)).trans hb⟩
theorem ii {β:Type} {B:Nat} {J:β->World->Prop} (hJ:AbidesFrom B J) {s:β} {A C:World} (h:J s A) (hb:Below A.heap.size A C):J s C:=
 hJ s A C none h ⟨hb.os,hb.tape,hb.output,hb.size,fun k hk _=>hb.block k hk⟩ (fun r e=>by cases e)
def qz (key:Nat->Nat) (ct b d m:Nat):List (Fin 256):=(List.range m).map fun j=>⟨uA key ct b d j % 256,Nat.mod_lt _ (by decide)⟩
theorem jB (key:Nat->Nat) (ct b d m:Nat):(qz key ct b d m).length=m:=by simp[qz]
theorem nJ (key:Nat->Nat) (ct b d m:Nat):qz key ct b d (m+1)=qz key ct b d m++[⟨uA key ct b d m % 256,Nat.mod_lt _ (by decide)⟩]:=by simp[qz,List.range_succ]
theorem nI (key:Nat->Nat) (ct b d:Nat) (w:World) :
  Calls Tryz.prog 117 #[.agg (ar key),.int .u32 ct,.int .i64 b,.int .i64 d] w fun e w'=>e=.returned (.func (.func 143) #[] #[.pointer (some ⟨w.heap.size,0,none⟩),.pointer (some ⟨w.heap.size+1,0,none⟩),.pointer (some ⟨w.heap.size+1+1,0,none⟩),.pointer (some ⟨w.heap.size+1+1+1,0,none⟩)])/\(((w.alloc (.cells (ar key) 23)).alloc (.cells #[.int .u32 ct] 26)).alloc (.cells #[.int .i64 b] 3)).alloc (.cells #[.int .i64 d] 22)=w':=by
 have hmf:∀(fn:Fn) (first cap:Array Value) (w:World),(Instr.makeFunc fn first cap).run Tryz.prog w=.ok (.func fn first cap) w:=fun _ _ _ _=>rfl;obtain⟨K,hK⟩:=af (ar key)
 rw[<-hK];clear hK;go_enter Tryz.func117,Tryz.ntmps117;go_wp2;go_ret
 exact⟨rfl,rfl⟩
structure jv (w:World) (p:Nat) (key:Nat->Nat) (ct b d:Nat):Prop where
 k:ae w p 23 (ar key)
 c:ae w (p+1) 26 #[.int .u32 ct]
 b:ae w (p+1+1) 3 #[.int .i64 b]
 d:ae w (p+1+1+1) 22 #[.int .i64 d]
theorem jv.below {w w':World} {p:Nat} {key:Nat->Nat} {ct b d:Nat} (h:jv w p key ct b d) (hb:Below w.heap.size w w'):jv w' p key ct b d:=⟨h.k.below hb h.k.lt,h.c.below hb h.c.lt,h.b.below hb h.b.lt,h.d.below hb h.d.lt⟩
theorem jv.keepC {w w':World} {p ob ab:Nat} {key:Nat->Nat} {ct b d:Nat} (h:jv w p key ct b d) (hb:fH ob ab w w') (h1:ob < p\/p+3 < ob) (h2:ab < p\/p+3 < ab):jv w' p key ct b d:=⟨hb.blk h.k (by omega) (by omega),hb.blk h.c (by omega) (by omega),hb.blk h.b (by omega) (by omega),hb.blk h.d (by omega) (by omega)⟩
theorem ox (key:Nat->Nat) (ct b d:Nat) (hk:br key) (hc:ct < 4294967296) (hb:b < 32) (hd:d < 2) (p ob ab n:Nat) (w:World) (hM:jv w p key ct b d) (hob:ob < w.heap.size) (hab:ab < w.heap.size) (h1:ob < p\/p+3 < ob) (h2:ab < p\/p+3 < ab) (hn:1<=n) :
  qJ Fence.wide n Tryz.prog 143 #[.pointer (some ⟨p,0,none⟩),.pointer (some ⟨p+1,0,none⟩),.pointer (some ⟨p+1+1,0,none⟩),.pointer (some ⟨p+1+1+1,0,none⟩)] (fun x:Fin 256=>#[.int .u8 ((x.1:Nat):Int)]) (fH ob ab) (fun pre=>∃m,pre=qz key ct b d m) 1000000 w:=fun N l J Jx W hN hW hJ hJx hlen hY h0=>by
 have HJB:=zh (fun(s:List (Fin 256)) (A C:World) (h:J s A) (hb:Below A.heap.size A C)=>ii hJ h hb);have HY:=zh hY;have HLN:=zh hlen;have HM:=zh (hM.below hW);have HOB:=zh (show ob < W.heap.size/\ab < W.heap.size/\(ob < p\/p+3 < ob)/\(ab < p\/p+3 < ab) by have:=hW.size;omega);have HNW:=zh (fun V=>mo key hk V);have HBK:=zh (fun i (hi:i < 18446744073709551616) V=>tO ct b d i hc hb hd hi V);have HEN:=zh (fun i g V (hV:cT V g key)=>gP key (ju ct b d i) hk (qW ct b d i) g V hV);have HKS:=zh (fun i k (hk':k < 16)=>(show gn key (ju ct b d i) k=uA key ct b d (16*i+k) by unfold uA;rw[show(16*i+k) / 16=i by omega,show(16*i+k) % 16=k by omega]));have HKL:=zh (fun j=>tD hk ct b d j);clear hJ hJx hY hlen hM hW h1 h2 hob hab hk hb hd hc;obtain⟨KY,hKY⟩:=af (ar key)
 have HSK:Hid ((Tryz.prog.info? 23).map (·.size)=some KY.size):=zh (by rw[hKY,ah];kernel_rfl);have HMK:Hid (ae W p 23 KY):=zh (by rw[hKY];exact HM.out.k);rw[<-hKY]at HNW;clear hKY;refine callsIn_of_wp Tryz.func143 rfl trivial ?_ rfl;simp only[Tryz.ntmps143,List.size_toArray,List.length_cons,List.length_nil,Nat.reduceAdd,Nat.reduceSub,Array.replicate_succ,Array.replicate_zero,List.push_toArray,List.append_toArray,List.nil_append,List.cons_append];refine wpIn_wide.2 ?_;go_upto_region 1 with (first
  | (refine wpList_load_row rfl _ _ rfl p rfl 23 KY (0,0) _ HMK.out Tryz.underlying23 rfl HSK.out ?_)
  | (go_at_call 137;refine(HNW.out _).mono ?_;rintro e w4 ⟨cg,rfl,hcg,hge,hb4⟩;have C1:=zh (HM.out.below hb4);have C2:=zh hcg;have C3:=zh (HJB.out _ _ _ h0 hb4);have C4:=zh (show ob < cg/\ab < cg by have:=HOB.out;omega);clear hb4 hcg hge))
 clear h0 HM HMK;go_wp2;go_loopw [7] (fun v7 wr=>∃i:Nat,v7=.int .u64 i/\J (qz key ct b d (16*i)) wr/\jv wr p key ct b d/\cT wr cg key) (fun v7 _=>N-(intOf v7).toNat)
 case atStart=>exact⟨0,rfl,C3.out,C1.out,C2.out⟩
 case round=>
  clear C1 C2 C3;obtain⟨i,rfl,hj,hm,hg⟩:=hrel;have hiN:16*i < N:=by have:=HLN.out _ _ hj;rwa [jB]at this
  have i0:(0:Int)<=(i:Int):=by omega
  have i1:(i:Int) < 1000000:=by omega
  have HJ:=zh hj;have HM:=zh hm;have HG:=zh hg;have d1:wr.cell? ⟨p+1,0,none⟩=some (.int .u32 ct):=hm.c.cell 0;have d2:wr.cell? ⟨p+1+1,0,none⟩=some (.int .i64 b):=hm.b.cell 0;have d3:wr.cell? ⟨p+1+1+1,0,none⟩=some (.int .i64 d):=hm.d.cell 0;have HB1:=zh (HBK.out i (by omega) wr);obtain⟨CB,hCB⟩:=af (ar (ju ct b d i))
  have HC1:Hid ((Tryz.prog.info? 23).map (·.size)=some CB.size):=zh (by rw[hCB,ah];kernel_rfl);have HC2:Hid (CB.all (·.oneCell')=true):=zh (by rw[hCB];exact aI _);have HC3:Hid ((#[.int .u8 0,.int .u8 0,.int .u8 0,.int .u8 0,.int .u8 0,.int .u8 0,.int .u8 0,.int .u8 0,.int .u8 0,.int .u8 0,.int .u8 0,.int .u8 0,.int .u8 0,.int .u8 0,.int .u8 0,.int .u8 0]:Array Value).size=CB.size):=zh (by rw[hCB,ah];rfl);have HE1:=zh (fun V (hV:cT V cg key)=>HEN.out i cg V hV);rw[<-hCB]at HB1 HE1;have HES:=zh (fun k (hk:k < 16)=>(aR (gn key (ju ct b d i)) hk).trans (by rw[HKS.out i k hk]));obtain⟨EB,hEB⟩:=af (ar (gn key (ju ct b d i)))
  rw[<-hEB]at HE1 HES;clear hj hm hg hCB hEB;go_upto_region 4 with (first
   | (go_at_call 144;refine(HB1.out).mono ?_;rintro e w5 ⟨rfl,hb5⟩;have D1:=zh (HM.out.below hb5);have D2:=zh (HG.out.below hb5);have D3:=zh (HJB.out _ _ _ HJ.out hb5);clear hb5)
   | (refine wpList_store_row rfl _ _ _ rfl w5.heap.size CB rfl rfl 23 #[.int .u8 0,.int .u8 0,.int .u8 0,.int .u8 0,.int .u8 0,.int .u8 0,.int .u8 0,.int .u8 0,.int .u8 0,.int .u8 0,.int .u8 0,.int .u8 0,.int .u8 0,.int .u8 0,.int .u8 0,.int .u8 0] (ae.new _ _ _) HC1.out HC3.out HC2.out ?_))
  obtain⟨q,hq⟩:=af w5.heap.size
  have hb6:Below w5.heap.size w5 ((w5.alloc (.cells #[.int .u8 0,.int .u8 0,.int .u8 0,.int .u8 0,.int .u8 0,.int .u8 0,.int .u8 0,.int .u8 0,.int .u8 0,.int .u8 0,.int .u8 0,.int .u8 0,.int .u8 0,.int .u8 0,.int .u8 0,.int .u8 0] 23)).setRow w5.heap.size CB):=aj (bM _) ao _;refine ag (fun V=>ae V q 23 CB/\J (qz key ct b d (16*i)) V/\jv V p key ct b d/\cT V cg key) ⟨by rw[hq];exact setRow_heap _ _ _ CB 23 (0,0) (ae.new _ _ _),HJB.out _ _ _ D3.out hb6,D1.out.below hb6,D2.out.below hb6⟩ ?_;rintro W6 ⟨b1,b2,b3,b4⟩;have E1:=zh b1;have E2:=zh b2;have E3:=zh b3;have E4:=zh b4;rw[<-hq];clear b1 b2 b3 b4 hb6 hq D1 D2 D3 d1 d2 d3 HJ HM HG;go_wp2_with (first
   | (refine wpList_load_row rfl _ _ rfl q rfl 23 CB (0,0) _ E1.out Tryz.underlying23 rfl HC1.out ?_)
   | (go_at_call 142;refine(HE1.out _ E4.out).mono ?_;rintro e w7 ⟨rfl,hb7⟩;have F1:=zh (E3.out.below hb7);have F2:=zh (E4.out.below hb7);have F3:=zh (HJB.out _ _ _ E2.out hb7);clear hb7))
  clear E1 E2 E3 E4;go_loopw [27] (fun v wr=>∃k:Nat,k<=16/\v=.int .i64 k/\J (qz key ct b d (16*i+k)) wr/\jv wr p key ct b d/\cT wr cg key) (fun v _=>16-(intOf v).toNat)
  case atStart=>exact⟨0,by omega,rfl,F3.out,F1.out,F2.out⟩
  case round=>
   clear F1 F2 F3;obtain⟨k,hk,rfl,hj,hm,hg⟩:=hrel;have HJ:=zh hj;have HM:=zh hm;have HG:=zh hg;clear hj hm hg;by_cases hlt:k < 16
   ·have k0:(0:Int)<=(k:Int):=by omega
    have k1:(k:Int) < 16:=by omega
    obtain⟨iu,hiu,hius⟩:=iT;have hix:=gd (P:=Tryz.prog) 23 5 16 Tryz.underlying23 iu hiu hius .u8 Tryz.underlying5 EB k hlt _ (HES.out k hlt);obtain⟨fn,tmps,assign,body,hy,hR⟩:=HY.out (qz key ct b d (16*i+k)) ⟨uA key ct b d (16*i+k) % 256,Nat.mod_lt _ (by decide)⟩ wr HJ.out;have hxx:uA key ct b d (16*i+k) % 256=uA key ct b d (16*i+k):=Nat.mod_eq_of_lt (HKL.out _);simp only[hxx]at hy;have HSU:=zh (nJ key ct b d (16*i+k));rw[<-nJ]at hR;have HRr:=zh hR;obtain⟨x,hx⟩:=af (uA key ct b d (16*i+k))
    rw[<-hx]at hy hix;clear hR hxx hx hiu;go_upto_region 7 with (fail)
    refine(wpIn_wide (n:=n)).1 ?_
    gi_wp2
    refine HRr.out.mono ?_;rintro e w8 (⟨rfl,hJ4,hk4⟩ | ⟨rfl,hx4⟩)
    ·gi_wp2
     go_wp2;go_roundw
     case rel=>exact⟨k+1,by omega,by go_num,hJ4,HM.out.keepC hk4 HOB.out.2.2.1 HOB.out.2.2.2,hk4.blk HG.out (by have:=C4.out;omega) (by have:=C4.out;omega)⟩
     case measure=>simp[intOf];omega
    ·gi_wp2
     go_wp2;refine bodyPost_ret (results_none rfl _ _ _) rfl ?_
     exact⟨⟨_,rfl⟩,_,⟨_,rfl⟩,hx4⟩
   ·obtain rfl:k=16:=by omega
    have n1:¬(16:Int) < 16:=by omega
    go_wp2;go_roundw
    case rel=>exact⟨i+1,by go_num,by rw[show 16*(i+1)=16*i+16 by omega];exact HJ.out,HM.out,HG.out⟩
    case measure=>simp[intOf];omega
def kS (z:Nat->Nat) (pre:List (Fin 256)):List Value:=pre.zipIdx.map fun x=>.int .u8 ((z x.2 ^^^ x.1.1:Nat):Int)
theorem rT (z:Nat->Nat) (pre:List (Fin 256)) (x:Fin 256):kS z (pre++[x])=kS z pre++[.int .u8 ((z pre.length ^^^ x.1:Nat):Int)]:=by
 simp[kS,List.zipIdx_append]
theorem vY {key:Nat->Nat} (hk:br key) (ct b d m:Nat) (z:Nat->Nat) {j:Nat} (hj:j < m):(kS z (qz key ct b d m))[j]? = some (.int .u8 (jK key ct b d z j:Nat)):=by
 have hl:j < (qz key ct b d m).length:=by rw[jB];exact hj
 have e:(qz key ct b d m)[j]'hl=⟨uA key ct b d j % 256,Nat.mod_lt _ (by decide)⟩:=by simp[qz]
 simp[kS,List.getElem?_eq_getElem hl,e,jK,Nat.mod_eq_of_lt (tD hk ct b d j)]
theorem sD (n:Nat) (hn:n<=1000000) (w:World):(Instr.makeSlice 44 (.int .i64 0) (.int .i64 (n:Int))).run Tryz.prog w=.ok (.slice (some ⟨w.heap.size,0,none⟩) 0 n) (w.alloc (.cells (madeCells #[.int .u8 0] n) 5)):=by
 obtain⟨i,hi,hz,hs,hb⟩:=info_parts Tryz.infoByte;have h:=run_make (P:=Tryz.prog) w 44 5 i (.int .u8 0) Tryz.underlying44 hi hz .i64 .i64 0 (n:Int) (by omega) (by omega) (by rw[hb];omega) (by omega);rw[h,hs];simp;rfl
def yS (key:Nat->Nat) (ct b d n:Nat) (z:Nat->Nat) (w:World) (e:Ending) (w':World):Prop:=
 ∃A c,e=.returned (.tuple #[.slice A n c,.int .i64 0])/\n<=c/\cj w.heap.size A/\au w' w'.heap.size A n (fun j=>.int .u8 ((jK key ct b d z j:Nat):Int))/\Below w.heap.size w w'
structure tn (w:World) (kb ab n:Nat) (bs:Value) (z:Nat->Nat) (pre:List (Fin 256)) (W:World):Prop where
 box:Boxed W (ab+1) 44 (.slice (some ⟨ab,0,none⟩) pre.length n)
 sl:SL W 5 1 (some ⟨ab,0,none⟩) pre.length n (kS z pre)
 arg:Boxed W (kb+1) 44 bs
 low:Below w.heap.size w W
theorem n8 {w:World} {kb ab n B:Nat} {bs:Value} {z:Nat->Nat} (hB:w.heap.size<=B) (R:List (Fin 256)->Prop):OwnFrom B (fun pre W=>tn w kb ab n bs z pre W/\R pre):=fun s X Y row ⟨h,hR⟩ hg hr=>by
 have keep:∀k (o:Obj),X.heap[k]? = some o->o.isCells=true->Y.heap[k]? = X.heap[k]?:=fun k o ho hc=>hg.block k (Array.getElem?_eq_some_iff.1 ho).1 (fun e=>by
  obtain⟨_,o',ho',hc'⟩:=hr k e.symm;rw[ho]at ho';cases ho';rw[hc]at hc';cases hc')
 refine⟨⟨(keep _ _ h.box rfl).trans h.box,h.sl.keep (fun a ha=>?_),(keep _ _ h.arg rfl).trans h.arg,⟨hg.os.trans h.low.os,hg.tape.trans h.low.tape,hg.output.trans h.low.output,ba h.low.size hg.size,fun k hk=>?_⟩⟩,hR⟩
 ·obtain⟨cur,hc⟩:=h.sl.obj ha
  exact keep _ _ hc rfl
 ·exact(hg.block k (bg hk h.low.size) (fun e=>by have:=(hr k e.symm).1;omega)).trans (h.low.block k hk)
theorem ir (key:Nat->Nat) (ct b d:Nat) (hk:br key) (hc:ct < 4294967296) (hb:b < 32) (hd:d < 2) (A:Option Addr) (n c:Nat) (z:Nat->Nat) (hn1:1<=n) (hn2:n<=16384) (hz:∀j,j < n->z j < 256) (w:World) (hr:au w w.heap.size A n (fun j=>.int .u8 ((z j:Nat):Int))) :
  Calls Tryz.prog 86 #[.agg (ar key),.int .u32 ct,.int .i64 b,.int .i64 d,.slice A n c] w (yS key ct b d n z w):=by
 have HPF:=zh (fun V=>iP ct b d hc hb hd V);have HSM:=zh (fun V=>nI key ct b d V);have HOL:=zh (fun m j (hj:j < m)=>vY hk ct b d m z hj);obtain⟨lb,lo,rfl,hlb,hlc⟩:=hr (by omega);have HLC:=zh hlc;have HLB:=zh hlb;have HZ:=zh hz;have HSR:=zh (fun p ob ab (V:World) (hM:jv V p key ct b d) h1 h2 h3 h4=>ox key ct b d hk hc hb hd p ob ab 7 V hM h1 h2 h3 h4 (by decide));obtain⟨ZB,hZB⟩:∃ZB:Array Value,ZB=#[.int .u8 0,.int .u8 0,.int .u8 0,.int .u8 0,.int .u8 0,.int .u8 0,.int .u8 0,.int .u8 0]:=⟨_,rfl⟩
 have HZB:=zh hZB;obtain⟨X,hX⟩:=af (bA 8 (cI (oF ct b d)))
 have HX:Hid ((Tryz.prog.info? 187).map (·.size)=some X.size):=zh (by rw[hX];exact lF _);have HOX:Hid (X.all (·.oneCell')=true):=zh (by rw[hX];exact i4 _ _);have HZX:Hid (ZB.size=X.size):=zh (by rw[hX,hZB,cw];rfl);rw[<-hX]at HPF;obtain⟨KY,hKY⟩:=af (ar key)
 have HSK:Hid ((Tryz.prog.info? 23).map (·.size)=some KY.size):=zh (by rw[hKY,ah];kernel_rfl);have HKY:=zh hKY;rw[<-hKY]at HSM;rw[<-hKY];have n0:(1:Int)<=(n:Int):=by omega
 have n1:(n:Int)<=16384:=by omega
 have n2:((n:Int) == 0)=false:=by rw[beq_eq_false_iff_ne];omega
 have hmk:=sD n (by omega);clear hk hc hb hd hr hz hlb hlc hX hKY hZB;refine(callsIn_wide (n:=8)).1 ?_;refine callsIn_of_wp_marks Tryz.func86 rfl trivial ?_ rfl;simp only[Tryz.ntmps86,List.size_toArray,List.length_cons,List.length_nil,Nat.reduceAdd,Nat.reduceSub,Array.replicate_succ,Array.replicate_zero,List.push_toArray,List.append_toArray,List.nil_append,List.cons_append];refine wpIn_wide.2 ?_;go_upto_region 1 with (fail)
 obtain⟨kb,hkb⟩:=af w.heap.size
 refine ag (fun V=>ae V kb 23 KY/\ae V (kb+1) 44 #[.slice (some ⟨lb,lo,none⟩) n c]/\Below w.heap.size w V) ⟨by rw[hkb];exact(aq _ _ _ _ rfl).alloc _,by rw[hkb];exact aq _ _ _ _ (by simp),(bM _).alloc (by simp) _⟩ ?_;rintro W1 ⟨b1,b2,b3⟩;have B1:=zh b1;have B2:=zh b2;have B3:=zh b3;have HKB:=zh hkb;rw[<-hkb];clear b1 b2 b3 hkb;go_upto_region 2 with (first
  | (go_at_call 114;refine(HPF.out _).mono ?_;rintro e w4 ⟨rfl,hb4⟩;have C1:=zh (B1.out.below hb4 B1.out.lt);have C2:=zh (B2.out.below hb4 B2.out.lt);have C3:=zh (B3.out.trans (hb4.mono B3.out.size));clear hb4)
  | (refine wpList_store_row rfl _ _ _ rfl w4.heap.size X rfl rfl 187 ZB (by rw[HZB.out];exact ae.new _ _ _) HX.out HZX.out HOX.out ?_))
 have hb5:Below w4.heap.size w4 ((w4.alloc (.cells ZB 187)).setRow w4.heap.size X):=aj (bM _) ao _;refine ag (fun V=>ae V kb 23 KY/\ae V (kb+1) 44 #[.slice (some ⟨lb,lo,none⟩) n c]/\Below w.heap.size w V) ⟨C1.out.below (by rw[<-HZB.out];exact hb5) C1.out.lt,C2.out.below (by rw[<-HZB.out];exact hb5) C2.out.lt,C3.out.trans ((by rw[<-HZB.out];exact hb5:Below _ _ _).mono C3.out.size)⟩ ?_;rintro W2 ⟨b1,b2,b3⟩;have D1:=zh b1;have D2:=zh b2;have D3:=zh b3;have d2:=b2.cell 0;clear b1 b2 b3 hb5 B1 B2 B3 C1 C2 C3;simp at d2;go_upto_region 9 with (fail)
 obtain⟨ab,hab⟩:=af W2.heap.size
 refine ag (fun V=>ae V kb 23 KY/\ae V (kb+1) 44 #[.slice (some ⟨lb,lo,none⟩) n c]/\Boxed V (ab+1) 44 (.slice (some ⟨ab,0,none⟩) 0 n)/\SL V 5 1 (some ⟨ab,0,none⟩) 0 n []/\Below w.heap.size w V/\V.heap.size=ab+2) ⟨(D1.out.alloc _).alloc _,(D2.out.alloc _).alloc _,by rw[hab];exact aq _ _ _ _ (by simp),⟨rfl,.inr ⟨ab,0,_,rfl,by rw[hab];exact(ae.new _ _ _).alloc _,Nat.zero_le _,by unfold maxLen;omega,by simp[size_madeCells],fun j hj=>by omega⟩⟩,(D3.out.alloc D3.out.size _).alloc (by simp;have:=D3.out.size;omega) _,by rw[hab];simp⟩ ?_;rintro W3 ⟨b1,b2,b3,b4,b5,b6⟩;have E1:=zh b1;have E2:=zh b2;have E3:=zh b3;have E4:=zh b4;have E5:=zh b5;have HAB:=zh (show w.heap.size<=ab/\kb+1 < ab by have:=D2.out.lt;have:=D3.out.size;omega);have HW3:=zh b6;rw[<-hab];clear b1 b2 b3 b4 b5 b6 hab D1 D2 D3 d2;go_wp2_with (first
  | (refine wpList_load_row rfl _ _ rfl kb rfl 23 KY (0,0) _ E1.out Tryz.underlying23 rfl HSK.out ?_)
  | (go_at_call 117;refine(HSM.out _).mono ?_;rintro e w5 ⟨rfl,rfl⟩))
 refine ag (fun V=>jv V (ab+2) key ct b d/\tn w kb ab n (.slice (some ⟨lb,lo,none⟩) n c) z [] V) ⟨?_,?_⟩ ?_
 ·rw[HKY.out];have e:=HW3.out
  exact⟨((aq _ _ _ _ e).alloc _).alloc _ |>.alloc _,((aq _ _ _ _ (by simp;omega)).alloc _).alloc _,(aq _ _ _ _ (by simp;omega)).alloc _,aq _ _ _ _ (by simp;omega)⟩
 ·have e:=E5.out.size;have hbw:Below w.heap.size w ((((W3.alloc (.cells KY 23)).alloc (.cells #[.int .u32 ct] 26)).alloc (.cells #[.int .i64 b] 3)).alloc (.cells #[.int .i64 d] 22)):=(((E5.out.alloc (by omega) _).alloc (by simp;omega) _).alloc (by simp;omega) _).alloc (by simp;omega) _;have hb3:Below W3.heap.size W3 ((((W3.alloc (.cells KY 23)).alloc (.cells #[.int .u32 ct] 26)).alloc (.cells #[.int .i64 b] 3)).alloc (.cells #[.int .i64 d] 22)):=(((bM _).alloc (by simp) _).alloc (by simp;omega) _).alloc (by simp;omega) _
  exact⟨(hb3.block _ E3.out.lt).trans E3.out,E4.out.next hb3,(hb3.block _ E2.out.lt).trans E2.out,hbw⟩
 rintro W5 ⟨b1,b2⟩;have F1:=zh b1;have F2:=zh b2;have hW3:=HW3.out;rw[hW3];have HZS:=zh (show ab+2<=W5.heap.size by have:=b1.k.lt;omega);clear b1 b2 hW3 E1 E2 E3 E4 E5 HW3;refine(wpIn_wide (n:=8)).1 ?_;have hseq:=HSR.out (ab+2) (ab+1) ab W5 F1.out (by have:=HZS.out;omega) (by have:=HZS.out;omega) (.inl (by omega)) (.inl (by omega));obtain⟨i0,hi0,hz0,hz1,hz2⟩:=info_parts Tryz.infoByte;refine gw rfl (by decide) (gf:=143) (lb:=#[.pointer (some ⟨ab+2,0,none⟩),.pointer (some ⟨ab+2+1,0,none⟩),.pointer (some ⟨ab+2+1+1,0,none⟩),.pointer (some ⟨ab+2+1+1+1,0,none⟩)]) rfl trivial (enters_of Tryz.func143 (by kernel_rfl) rfl)
  hseq fH.trans ry (Below.refl _ _) (fun _=>rfl) n (by omega)
  (fun pre W=>tn w kb ab n (.slice (some ⟨lb,lo,none⟩) n c) z pre W/\pre.length < n)
  (fun cd pre W=>cd=.exit 1/\tn w kb ab n (.slice (some ⟨lb,lo,none⟩) n c) z pre W/\pre.length=n)
  (n8 (by have:=F2.out.low.size;omega) _)
  (fun cd s A B row hs hg hr=>⟨hs.1,n8 (by have:=F2.out.low.size;omega) (fun pre=>pre.length=n) s A B row hs.2 hg hr⟩)
  (fun pre W h=>h.2) ⟨F2.out,by show 0 < n;omega⟩ ?a1 ?assign ?body ?stop
 case assign=>
  intro l x W K hK
  gi_wp2
  exact hK
 case body=>
  rintro l pre x W ⟨hI,hlt⟩;obtain⟨m,hm⟩:=af pre.length
  have HM:=zh hm;have hmn:m < n:=by omega
  have m0:(0:Int)<=(m:Int):=by omega
  have m1:(m:Int) < (n:Int):=by omega
  obtain⟨zz,hzz⟩:=af (z m)
  obtain⟨xx,hxx⟩:=af x.1
  obtain⟨yy,hyy⟩:=af (zz ^^^ xx)
  have HXX:=zh hxx;have hz8:zz < 256:=by rw[hzz];exact HZ.out m hmn
  have hx8:xx < 256:=by rw[hxx];exact x.2
  have hbx:=bx zz xx yy hz8 hx8 hyy.symm;have HYL:=zh (show kS z (pre++[x])=kS z pre++[.int .u8 yy] by rw[rT,<-hm,hyy,hzz,hxx]);have hbox:=hI.box;have hsl:=hI.sl;have harg:=hI.arg;have hlow:=hI.low;rw[<-hm]at hbox hsl;have HBOX:=zh hbox;have HC14:=zh (show W.drew.cell? ⟨ab+1,0,none⟩=some (.slice (some ⟨ab,0,none⟩) m n)from hbox.cell);have HC9:=zh harg.cell;have hcz:W.cell? ⟨lb,lo+m,none⟩=some (.int .u8 zz):=by rw[hzz];exact(hlow.cell (p:=⟨lb,lo+m,none⟩) HLB.out).trans (HLC.out m hmn)
  have HS0:=zh (show W.drew.cell? ⟨kb+1,0,none⟩=some (.slice (some ⟨lb,lo,none⟩) n c)/\W.drew.cell? ⟨lb,lo+m,none⟩=some (.int .u8 zz)from ⟨harg.cell,hcz⟩);have HTA:=zh (show Below W.heap.size W ((W.drew).alloc (.cells #[.int .u8 yy] 5))from ((Below.refl _ W).drew).alloc ao _);have HC15:=zh (show((W.drew).alloc (.cells #[.int .u8 yy] 5)).cell? ⟨ab+1,0,none⟩=some (.slice (some ⟨ab,0,none⟩) m n)from (HTA.out.cell (p:=⟨ab+1,0,none⟩) hbox.lt).trans hbox.cell);have HS1:=zh (show((W.drew).alloc (.cells #[.int .u8 yy] 5)).cell? ⟨kb+1,0,none⟩=some (.slice (some ⟨lb,lo,none⟩) n c)/\((W.drew).alloc (.cells #[.int .u8 yy] 5)).cell? ⟨lb,lo+m,none⟩=some (.int .u8 zz)from ⟨(HTA.out.cell (p:=⟨kb+1,0,none⟩) harg.lt).trans harg.cell,(HTA.out.cell (p:=⟨lb,lo+m,none⟩) (bg HLB.out hlow.size)).trans hcz⟩);have HSL1:=zh (hsl.next HTA.out);have HTB:=zh (show ∀(j:Nat) (u:Value),([.int .u8 yy]:List Value)[j]? = some u->((W.drew).alloc (.cells #[.int .u8 yy] 5)).cell? ((⟨W.heap.size,0,none⟩:Addr).add j)=some u from fun j u hu=>by
   cases j with
   | zero=>rw[Addr.add_lit];simp at hu;subst hu;exact(aq W.drew 5 #[.int .u8 yy] W.heap.size rfl).cell 0
   | succ j=>simp at hu)
  have hkb1:kb+1 < ab:=HAB.out.2;have HEND:Hid (∀w6,SL w6 5 1 (some ⟨ab,0,none⟩) (m+1) n (kS z pre++[.int .u8 yy])->aa (fun k=>k=ab) ((W.drew).alloc (.cells #[.int .u8 yy] 5)) w6->
    (w6.cell? ⟨kb+1,0,none⟩=some (.slice (some ⟨lb,lo,none⟩) n c)/\w6.cell? ⟨lb,lo+m,none⟩=some (.int .u8 zz))/\w6.cell? ⟨ab+1,0,none⟩=some (.slice (some ⟨ab,0,none⟩) m n)/\w6.frozen? ⟨ab+1,0,none⟩=false/\
    ((w6.setCell ⟨ab+1,0,none⟩ (.slice (some ⟨ab,0,none⟩) (m+1) n)).cell? ⟨kb+1,0,none⟩=some (.slice (some ⟨lb,lo,none⟩) n c)/\(w6.setCell ⟨ab+1,0,none⟩ (.slice (some ⟨ab,0,none⟩) (m+1) n)).cell? ⟨lb,lo+m,none⟩=some (.int .u8 zz))/\
    ((w6.setCell ⟨ab+1,0,none⟩ (.slice (some ⟨ab,0,none⟩) (m+1) n)).cell? ⟨kb+1,0,none⟩=some (.slice (some ⟨lb,lo,none⟩) n c)/\(w6.setCell ⟨ab+1,0,none⟩ (.slice (some ⟨ab,0,none⟩) (m+1) n)).cell? ⟨ab+1,0,none⟩=some (.slice (some ⟨ab,0,none⟩) (m+1) n)/\
     KeepsFrom W5.heap.size W (w6.setCell ⟨ab+1,0,none⟩ (.slice (some ⟨ab,0,none⟩) (m+1) n))/\fH (ab+1) ab W (w6.setCell ⟨ab+1,0,none⟩ (.slice (some ⟨ab,0,none⟩) (m+1) n))/\tn w kb ab n (.slice (some ⟨lb,lo,none⟩) n c) z (pre++[x]) (w6.setCell ⟨ab+1,0,none⟩ (.slice (some ⟨ab,0,none⟩) (m+1) n))/\True)):=zh (fun w6 hs6 hk6=>by
   have hlbw:lb < w.heap.size:=HLB.out;have hwab:w.heap.size<=ab:=HAB.out.1;have hbxl:=hbox.lt;have hkW:aa (fun k=>k=ab) W w6:=(aa.of_below HTA.out).trans hk6 (fun _ _ h=>h);have bb6:Boxed w6 (ab+1) 44 (.slice (some ⟨ab,0,none⟩) m n):=hkW.blk hbox (by omega);have ba6:Boxed w6 (kb+1) 44 (.slice (some ⟨lb,lo,none⟩) n c):=hkW.blk harg (by omega);have hkS:aa (fun k=>k=ab\/k=ab+1) W (w6.setCell ⟨ab+1,0,none⟩ (.slice (some ⟨ab,0,none⟩) (m+1) n)):=(hkW.mono (fun _ h=>.inl h)).setCell (p:=⟨ab+1,0,none⟩) (.inr rfl) _;have cz6:w6.cell? ⟨lb,lo+m,none⟩=some (.int .u8 zz):=(hkW.cell (p:=⟨lb,lo+m,none⟩) (by have:=hlow.size;show lb < _;omega) (by show ¬lb=ab;omega)).trans hcz;have ck9:(w6.setCell ⟨ab+1,0,none⟩ (.slice (some ⟨ab,0,none⟩) (m+1) n)).cell? ⟨kb+1,0,none⟩=some (.slice (some ⟨lb,lo,none⟩) n c):=(World.cell?_setCell_other w6 _ _ _ (fun e=>by injection e with e;omega)).trans ba6.cell;have cz9:(w6.setCell ⟨ab+1,0,none⟩ (.slice (some ⟨ab,0,none⟩) (m+1) n)).cell? ⟨lb,lo+m,none⟩=some (.int .u8 zz):=(World.cell?_setCell_other w6 _ _ _ (fun e=>by injection e with e;omega)).trans cz6;obtain⟨cab,hcab⟩:=hsl.obj rfl;refine⟨⟨ba6.cell,cz6⟩,bb6.cell,bb6.frozen,⟨ck9,cz9⟩,ck9,(bb6.set _).cell,⟨hkS.size,fun k o hk hko hno=>?_⟩,⟨hkS.size,fun k cs t fr h1 h2 h3=>(hkS.block k (Array.getElem?_eq_some_iff.1 h3).1 (by omega)).trans h3⟩,⟨?_,?_,?_,?_⟩,trivial⟩
   ·refine(hkS.block k (Array.getElem?_eq_some_iff.1 hko).1 (fun e=>?_)).trans hko;have:=HZS.out;omega
   ·rw[List.length_append,<-hm];exact bb6.set _
   ·rw[List.length_append,<-hm,HYL.out]
    exact hs6.keep (fun a ha=>by cases ha;exact Below.heap_setCell _ _ _ _ (by show ab ≠ ab+1;omega))
   ·exact hkS.blk harg (by omega)
   ·exact aa.below hlow hkS (fun k hk=>by omega) (by have:=hlow.size;omega))
  clear hI hbox hsl harg hlow hcz hm hzz hxx hyy hlt
  gi_wp2_with (fail)
  rw[<-HXX.out];refine eu (S:=fun w'=>w'.cell? ⟨kb+1,0,none⟩=some (.slice (some ⟨lb,lo,none⟩) n c)/\w'.cell? ⟨lb,lo+m,none⟩=some (.int .u8 zz)) (by rintro ⟨_,_,h⟩;exact h) (by kernel_rfl) (by kernel_rfl) HS0.out (fun hHeld=>?_);refine ed (i:=1) (x:=some 45) (v:=.slice (some ⟨lb,lo,none⟩) n c) rfl (.inl ⟨by rfl,fun W hW=>(by have s0:=hW.1;go_simp)⟩) ?_;refine dF (i:=6) (x:=some 50) (v:=.int .u8 xx) rfl ?_;refine wpAnyH_ready (rs:=[0,2]) (by kernel_rfl) (by simp) ?_;refine AllReadyH.cons (o:=⟨some 44,_,_,_,_,_⟩) rfl (fun K hK=>?_) (AllReadyH.cons (o:=⟨some 46,_,_,_,_,_⟩) rfl (fun K hK=>?_) AllReadyH.nil)
  focus
   rw[if_pos (by rfl)];have cl:=HC14.out;go_simp;clear cl;refine hK.out _ _ HS0.out (fun hHeld=>?_);clear hK K
   try simp only[Act.put,qa,qb,qc]
   refine bc (i:=2) (x:=some 46) rfl fun K hK=>?_;have cl:=HC14.out;go_simp;clear cl;refine hK.out _ _ HS0.out (fun hHeld=>?_);clear hK K
   try simp only[Act.put,qa,qb,qc]
   refine bF (i:=3) (x:=some 47) (v:=.int .i64 m) rfl ?_;refine bF (i:=4) (x:=some 48) (v:=.pointer (some ⟨lb,lo+m,none⟩)) rfl ?_;refine ed (i:=5) (x:=some 49) (v:=.int .u8 zz) rfl (.inl ⟨by rfl,fun W hW=>(by have s1:=hW.2;go_simp)⟩) ?_;refine bF (i:=7) (x:=some 51) (v:=.int .u8 yy) rfl ?_;refine bc (i:=8) (x:=some 52) rfl fun K hK=>?_;go_simp
  rotate_left
  focus
   rw[if_pos (by rfl)];have cl:=HC14.out;go_simp;clear cl;refine hK.out _ _ HS0.out (fun hHeld=>?_);clear hK K
   try simp only[Act.put,qa,qb,qc]
   refine bF (i:=3) (x:=some 47) (v:=.int .i64 m) rfl ?_;refine bF (i:=4) (x:=some 48) (v:=.pointer (some ⟨lb,lo+m,none⟩)) rfl ?_;refine ed (i:=5) (x:=some 49) (v:=.int .u8 zz) rfl (.inl ⟨by rfl,fun W hW=>(by have s1:=hW.2;go_simp)⟩) ?_;refine bF (i:=7) (x:=some 51) (v:=.int .u8 yy) rfl ?_;refine wpAnyH_ready (rs:=[0,8]) (by kernel_rfl) (by simp) ?_;refine AllReadyH.cons (o:=⟨some 44,_,_,_,_,_⟩) rfl (fun K hK=>?_) (AllReadyH.cons (o:=⟨some 52,_,_,_,_,_⟩) rfl (fun K hK=>?_) AllReadyH.nil)
   focus
    rw[if_pos (by rfl)];have cl:=HC14.out;go_simp;clear cl;refine hK.out _ _ HS0.out (fun hHeld=>?_);clear hK K
    try simp only[Act.put,qa,qb,qc]
    refine bc (i:=8) (x:=some 52) rfl fun K hK=>?_;go_simp
   rotate_left
   focus
    rw[if_pos (by rfl)];go_simp;refine hK.out _ _ HS1.out (fun hHeld=>?_);clear hK K
    try simp only[Act.put,qa,qb,qc]
    refine bc (i:=0) (x:=some 44) rfl fun K hK=>?_;obtain⟨V8,hV8⟩:∃V,V=(W.alloc (.cells #[.int .u8 yy] 5)).drew:=⟨_,rfl⟩
    have cl:((W.alloc (.cells #[.int .u8 yy] 5)).drew).cell? ⟨ab+1,0,none⟩=some (.slice (some ⟨ab,0,none⟩) m n):=HC15.out;rw[<-hV8]at cl ⊢;have HV8:=zh hV8;clear hV8;go_simp;clear cl;rw[HV8.out]
  all_goals
   refine hK.out _ _ HS1.out (fun hHeld=>?_);clear hK K
   try simp only[Act.put,qa,qb,qc]
   refine bc (i:=9) (x:=some 53) rfl fun K hK=>?_;refine oO _ _ 44 44 rfl _ 5 i0 1 Tryz.underlying44 hi0 hz1 ab 0 m n (kS z pre) rfl HSL1.out (.slice (some ⟨W.heap.size,0,none⟩) 1 1) rfl 1 [.int .u8 yy]
    (Src.ofSlice _ Tryz.underlying44 ⟨W.heap.size,0,none⟩ 1 1 [.int .u8 yy] (by rfl) (fun j u hu=>HTB.out j u hu) (by intro u hu;simp at hu;subst hu;rfl)) (by omega) (fun w6 hs6 hk6=>?_)
   have HS6:=zh hs6;have HK6:=zh hk6;have HG6:=zh (HEND.out w6 hs6 hk6);have hS6:=HG6.out.1;refine hK.out _ _ hS6 (fun hHeld=>?_);clear hK K hs6 hk6 hS6
   try simp only[Act.put,qa,qb,qc]
   refine bc (i:=10) (x:=none) rfl fun K hK=>?_;have cl:=HG6.out.2.1;have cf:=HG6.out.2.2.1;go_simp;clear cl cf;refine hK.out _ _ HG6.out.2.2.2.1 (fun hHeld=>?_);clear hK K
   try simp only[Act.put,qa,qb,qc]
   refine wpAnyH_done (by kernel_rfl) ?_ _;have HE6:=zh HG6.out.2.2.2.2;have c14:=HE6.out.2.1;have c9:=HE6.out.1;clear HS6 HK6 HG6;obtain⟨W9,hW9⟩:=af (w6.setCell ⟨ab+1,0,none⟩ (.slice (some ⟨ab,0,none⟩) (m+1) n))
   rw[<-hW9]at HE6 c14 c9 ⊢;clear hW9;by_cases hlast:m+1=n
   ·have t1:((m:Int)+1 == (n:Int))=true:=by rw[beq_iff_eq];omega
    gi_wp2
    exact⟨HE6.out.2.2.1,rfl,HE6.out.2.2.2.2.1,by rw[List.length_append,<-HM.out];exact hlast⟩
   ·have t1:((m:Int)+1 == (n:Int))=false:=by rw[beq_eq_false_iff_ne];omega
    gi_wp2
    exact⟨HE6.out.2.2.1,HE6.out.2.2.2.1,HE6.out.2.2.2.2.1,by rw[List.length_append,<-HM.out];show m+1 < n;omega⟩
 case stop=>
  rintro D cd pre W hD ⟨m,hpre⟩ ⟨rfl,hI,hlen⟩ hdf;subst hpre;rw[jB]at hlen;subst hlen;have hbox:=hI.box;have hsl:=hI.sl;rw[jB]at hbox hsl;have hc:=hbox.cell;have HSL:=zh hsl;have HLW:=zh hI.low;have HDF:=zh hdf;have HDN:=zh (show D ≠ ab by have:=HZS.out;omega);clear hbox hsl hI hdf
  gi_wp2
  go_wp2;refine⟨by simp,.inl ⟨_,_,rfl,run_takeDeferred HDF.out,?_⟩⟩;refine⟨.tuple #[.slice (some ⟨ab,0,none⟩) m m,.int .i64 0],by simp[results,Tryz.results86,go_sem],some ⟨ab,0,none⟩,m,rfl,Nat.le_refl _,gM HAB.out.1,?_,?_⟩
  ·have hput:=HSL.out.keep (w':=W.putObj D (.deferred none)) (fun a ha=>by cases ha;exact World.putObj_heap_other (Ne.symm HDN.out));intro _;refine⟨ab,0,rfl,hput.lt rfl,fun j hj=>?_⟩;rw[hput.cell rfl (by omega),HOL.out m j hj]
  ·exact HLW.out.grown (grownBy_putObj' _ D _) HLW.out.size (fun k e=>by cases e;have:=HZS.out;have:=HAB.out;omega)
end Go.Proofs.YtiiojpnckbglcaaGreat

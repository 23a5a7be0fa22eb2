import Derived.Test.YtnadmdadcpemnaaGreatRDq
import Derived.Test.YtnadmdadcpemnaaGreatMVMq
import Derived.Test.YtnadmdadcpemnaaGreatMZAq
import Derived.Deep.MidRow
import Derived.Test.YtnadmdadcpemnaaGreatB1q
set_option maxRecDepth 100000
set_option maxHeartbeats 3200000
namespace Go.Proofs.YtnadmdadcpemnaaGreat
set_option linter.unusedVariables false
set_option linter.unusedSimpArgs false
open Go.RowKit
attribute [local go_sem ↓] Go.wp_at_zero Go.wp_at_succ
theorem ctrB_low (ct b d i j:Nat) (hb:b < 32) (hd:d < 2) (hj:j < 4):ctrB ct b d i j=ct / 2 ^ (24-8*j) % 256:=by
 unfold ctrB halfB pfx;rw[if_pos (by omega)];rcases (by omega:j=0\/j=1\/j=2\/j=3)with rfl | rfl | rfl | rfl<;>simp only[Nat.reduceMul,Nat.reduceSub,Nat.reducePow]<;>omega
theorem ctrB_four (ct b d i:Nat) (hb:b < 32) (hd:d < 2):ctrB ct b d i 4=(8*b+4*d) % 256:=by
 unfold ctrB halfB pfx;rw[if_pos (by omega)];simp only[Nat.reduceMul,Nat.reduceSub,Nat.reducePow];omega
theorem ctrB_mid (ct b d i j:Nat) (hb:b < 32) (hd:d < 2) (h1:5<=j) (h2:j < 8):ctrB ct b d i j=0:=by
 unfold ctrB halfB pfx;rw[if_pos (by omega)];rcases (by omega:j=5\/j=6\/j=7)with rfl | rfl | rfl<;>simp only[Nat.reduceMul,Nat.reduceSub,Nat.reducePow]<;>omega
theorem ctrB_high (ct b d i k:Nat):ctrB ct b d i (8+k)=i / 2 ^ (56-8*k) % 256:=by
 unfold ctrB halfB;rw[if_neg (by omega),show 8+k-8=k by omega]
theorem upto_mid (ct b d i:Nat) (hb:b < 32) (hd:d < 2):b16 (upto 5 (ctrB ct b d i))=b16 (upto 8 (ctrB ct b d i)):=b16_congr fun j hj=>by
 unfold upto;by_cases h:j < 5
 ·rw[if_pos h,if_pos (by omega)]
 ·rw[if_neg h];by_cases h2:j < 8
  ·rw[if_pos h2,ctrB_mid ct b d i j hb hd (by omega) h2]
  ·rw[if_neg h2]
theorem upto_none (f:Nat->Nat):b16 (upto 0 f)=#[.int .u8 0,.int .u8 0,.int .u8 0,.int .u8 0,.int .u8 0,.int .u8 0,.int .u8 0,.int .u8 0,.int .u8 0,.int .u8 0,.int .u8 0,.int .u8 0,.int .u8 0,.int .u8 0,.int .u8 0,.int .u8 0]:=by
 rw[show upto 0 f=fun _=>0 from by funext j;unfold upto;rw[if_neg (by omega)]]
 rfl
theorem rblock_ok (ct b d i:Nat) (hc:ct < 4294967296) (hb:b < 32) (hd:d < 2) (hi:i < 18446744073709551616) (w:World):Calls Tryz.prog 67 #[.int .u32 ct,.int .i64 b,.int .i64 d,.int .u64 i] w fun e w'=>e=.returned (.agg (b16 (ctrB ct b d i)))/\Below w.heap.size w w':=by
 obtain⟨F,hF⟩:∃F,F=ctrB ct b d i:=⟨_,rfl⟩
 have HL:Hid (∀k,k < 4->((ct:Int) / 2 ^ (24-8*k)) % 256=((F k:Nat):Int)):=zh fun k hk=>by
  rw[hF,ctrB_low ct b d i k hb hd hk,Int.natCast_emod,Int.natCast_ediv,Int.natCast_pow]
  rfl
 have H4:Hid (8*(b:Int)+4*(d:Int)=((F 4:Nat):Int)):=zh (by rw[hF,ctrB_four ct b d i hb hd];omega);have HH:Hid (∀k,k < 8->((i:Int) / 2 ^ (56-8*k)) % 256=((F (8+k):Nat):Int)):=zh fun k hk=>by
  rw[hF,ctrB_high ct b d i k,Int.natCast_emod,Int.natCast_ediv,Int.natCast_pow]
  rfl
 obtain⟨E,hE⟩:∃E:Nat->Array Value,E=fun k=>b16 (upto k F):=⟨_,rfl⟩
 have HS:Hid (∀k,k < 16->(E k).setIfInBounds k (.int .u8 ((F k:Nat):Int))=E (k+1)):=zh (by rw[hE];exact fun k hk=>upto_set k F hk);have H0:Hid (E 0=#[.int .u8 0,.int .u8 0,.int .u8 0,.int .u8 0,.int .u8 0,.int .u8 0,.int .u8 0,.int .u8 0,.int .u8 0,.int .u8 0,.int .u8 0,.int .u8 0,.int .u8 0,.int .u8 0,.int .u8 0,.int .u8 0]):=zh (by rw[hE];exact upto_none F);have HM:Hid (E 5=E 8):=zh (by rw[hE,hF];exact upto_mid ct b d i hb hd);have HE:Hid (E 16=b16 (ctrB ct b d i)):=zh (by rw[hE,hF];exact upto_all _);have HX:=zh (fun k=>show(Tryz.prog.info? 23).map (·.size)=some (E k).size by rw[hE];exact size16 _);have HO:=zh (fun k=>show(E k).all (·.oneCell')=true by rw[hE];exact b16_one _);have HZ:Hid ((#[.int .u8 0,.int .u8 0,.int .u8 0,.int .u8 0,.int .u8 0,.int .u8 0,.int .u8 0,.int .u8 0,.int .u8 0,.int .u8 0,.int .u8 0,.int .u8 0,.int .u8 0,.int .u8 0,.int .u8 0,.int .u8 0]:Array Value).size=(E 16).size):=zh (by rw[hE,b16_size];rfl);have HAT:=zh (fun k j (hj:j < 16)=>show ∃x,(E k)[j]? = some (.int .u8 x) by rw[hE];exact⟨_,b16_at _ hj⟩);rw[<-HE.out];have b0:(0:Int)<=(b:Int):=by omega
 have b1:(b:Int) < 32:=by omega
 have d0:(0:Int)<=(d:Int):=by omega
 have d1:(d:Int) < 2:=by omega
 have c0:(0:Int)<=(ct:Int):=by omega
 have c1:(ct:Int) < 4294967296:=by omega
 have i0:(0:Int)<=(i:Int):=by omega
 have i1:(i:Int) < 18446744073709551616:=by omega
 have w4:IntKind.i64.wrap (8*(b:Int))=8*(b:Int):=by simp[IntKind.wrap_i64];omega
 have w5:IntKind.i64.wrap (4*(d:Int))=4*(d:Int):=by simp[IntKind.wrap_i64];omega
 have w6:IntKind.i64.wrap (8*(b:Int)+4*(d:Int))=8*(b:Int)+4*(d:Int):=by simp[IntKind.wrap_i64];omega
 clear hF hE hc hb hd hi;go_enter Tryz.func67,Tryz.ntmps67;go_upto_region 2 with (fail)
 obtain⟨g,hg⟩:∃g,g=w.heap.size:=⟨_,rfl⟩
 obtain⟨o,ho⟩:∃o,o=g+1:=⟨_,rfl⟩
 obtain⟨ZA,hZA⟩:∃ZA:Array Value,ZA=#[.int .u8 0,.int .u8 0,.int .u8 0,.int .u8 0,.int .u8 0,.int .u8 0,.int .u8 0,.int .u8 0,.int .u8 0,.int .u8 0,.int .u8 0,.int .u8 0,.int .u8 0,.int .u8 0,.int .u8 0,.int .u8 0]:=⟨_,rfl⟩
 have HZA:Hid (ZA.size=(E 16).size):=zh (by rw[hZA,HZ.out]);refine wp_let (fun V=>Blk V o 23 (E 0)/\Blk V g 23 ZA/\Below w.heap.size w V) ⟨by rw[ho,hg,H0.out];exact blk_atA _ _ _ _ (by simp),by rw[hg,hZA];exact(Blk.new _ _ _).alloc _,((Below.refl _ w).alloc (Nat.le_refl _) _).alloc (by simp) _⟩ ?_;rintro W1 ⟨b1,b2,b3⟩;have BB:=zh (And.intro b1 (And.intro b2 b3));have HSZ:=zh (show w.heap.size<=g/\g < o by omega);rw[<-hg,<-ho];clear b1 b2 b3 hg ho hZA HZ H0;go_wp2;go_loopw [10] (fun x wr=>∃k:Nat,k<=4/\x=.int .i64 k/\Blk wr o 23 (E k)/\Blk wr g 23 ZA/\Below w.heap.size w wr) (fun x _=>4-(intOf x).toNat)
 case atStart=>exact⟨0,by omega,rfl,BB.out⟩
 case round=>
  clear BB;obtain⟨k,hk,rfl,hO,hG,hb⟩:=hrel;have HO1:=zh hO;have HG1:=zh hG;have HBW:=zh hb;clear hO hG hb;by_cases hlt:k < 4
  ·have k0:(0:Int)<=(k:Int):=by omega
   have k1:(k:Int) < 4:=by omega
   have s0:(0:Int)<=24-8*(k:Int):=by omega
   have s1:((24:Int)-8*(k:Int)).toNat=24-8*k:=by omega
   obtain⟨x,hx⟩:=HAT.out k k (by omega);have c0:wr.cell? ⟨o,k,none⟩=some (.int .u8 x):=(HO1.out.cell k).trans hx;have f0:=HO1.out.frozen k;have HSk:=zh (HS.out k (by omega));have hk16:(k:Int) < 16:=by omega
   have hq:=HL.out k hlt;clear hx;go_wp2;go_roundw
   case rel=>
    refine⟨k+1,by omega,by go_num,?_,HG1.out.far (p:=⟨o,k,none⟩) (by have:=HSZ.out;show ¬g=o;omega) _,HBW.out.setCell (p:=⟨o,k,none⟩) (by have:=HSZ.out;show w.heap.size<=o;omega) _⟩;rw[<-HSk.out]
    exact HO1.out.set_ k _
   case measure=>simp[intOf];omega
  ·obtain rfl:k=4:=by omega
   have n1:¬(4:Int) < 4:=by omega
   obtain⟨x4,hx4⟩:=HAT.out 4 4 (by decide);have c4:wr.cell? ⟨o,4,none⟩=some (.int .u8 x4):=(HO1.out.cell 4).trans hx4;have f4:=HO1.out.frozen 4;have e45:=zh (HS.out 4 (by decide));clear hx4;go_upto_region 7 with (fail)
   rw[H4.out];refine wp_let (fun V=>Blk V o 23 (E (8+0))/\Blk V g 23 ZA/\Below w.heap.size w V) ⟨by rw[show 8+0=8 from rfl,<-HM.out,<-e45.out];exact HO1.out.set_ 4 _,HG1.out.far (p:=⟨o,4,none⟩) (by have:=HSZ.out;show ¬g=o;omega) _,HBW.out.setCell (p:=⟨o,4,none⟩) (by have:=HSZ.out;show w.heap.size<=o;omega) _⟩ ?_;rintro W2 ⟨b1,b2,b3⟩;have CC:=zh (And.intro b1 (And.intro b2 b3));clear b1 b2 b3 HO1 HG1 HBW c4 f4;go_wp2;go_loopw [11] (fun x wr=>∃k:Nat,k<=8/\x=.int .i64 k/\Blk wr o 23 (E (8+k))/\Blk wr g 23 ZA/\Below w.heap.size w wr) (fun x _=>8-(intOf x).toNat)
   case atStart=>exact⟨0,by omega,rfl,CC.out⟩
   case round=>
    clear CC;obtain⟨k,hk,rfl,hO,hG,hb⟩:=hrel;have HO1:=zh hO;have HG1:=zh hG;have HBW:=zh hb;clear hO hG hb;by_cases hlt:k < 8
    ·have k0:(0:Int)<=(k:Int):=by omega
     have k1:(k:Int) < 8:=by omega
     have s0:(0:Int)<=56-8*(k:Int):=by omega
     have s1:((56:Int)-8*(k:Int)).toNat=56-8*k:=by omega
     obtain⟨m,hm⟩:∃m,m=8+k:=⟨_,rfl⟩
     have i8:(8:Int)+(k:Int)=(m:Int):=by omega
     have i7:(m:Int) < 16:=by omega
     have i6:(0:Int)<=(m:Int):=by omega
     obtain⟨x,hx⟩:=HAT.out m m (by omega);rw[<-hm]at HO1;have c0:wr.cell? ⟨o,m,none⟩=some (.int .u8 x):=(HO1.out.cell m).trans hx;have f0:=HO1.out.frozen m;have HSk:=zh (HS.out m (by omega));have hq:=HH.out k hlt;rw[<-hm]at hq;have HMM:=zh hm;clear hm;clear hx;go_wp2;go_roundw
     case rel=>
      refine⟨k+1,by omega,by go_num,?_,HG1.out.far (p:=⟨o,m,none⟩) (by have:=HSZ.out;show ¬g=o;omega) _,HBW.out.setCell (p:=⟨o,m,none⟩) (by have:=HSZ.out;show w.heap.size<=o;omega) _⟩;rw[show 8+(k+1)=m+1 by have:=HMM.out;omega,<-HSk.out]
      exact HO1.out.set_ m _
     case measure=>simp[intOf];omega
    ·obtain rfl:k=8:=by omega
     have n1:¬(8:Int) < 8:=by omega
     have HX16:=zh (HX.out 16);have HO16:=zh (HO.out 16);have HO2:=zh (show Blk wr o 23 (E 16)from HO1.out);obtain⟨X,hX⟩:∃X,X=E 16:=⟨_,rfl⟩
     rw[<-hX]at HO2 HX16 HO16 HZA;have HXE:=zh hX;clear hX;go_wp2_with (first
      | (refine wpList_load_row rfl _ _ rfl o rfl 23 X (0,0) _ HO2.out Tryz.underlying23 rfl HX16.out ?_)
      | (refine wpList_store_row rfl _ _ _ rfl g X rfl rfl 23 ZA HG1.out HX16.out HZA.out HO16.out ?_))
     refine bodyPost_ret (v:=.agg X) (results_cell_row (g:=g) (t:=23) (fr:=(0,0)) Tryz.results67 _ _ X _ rfl (setRow_heap wr g ZA X 23 (0,0) HG1.out) Tryz.underlying23 rfl HX16.out) rfl ⟨by rw[HXE.out],?_⟩
     exact belowRow HBW.out (by have:=HSZ.out;omega) _
def cryL (key:Nat->Nat) (ct b d:Nat) (z:Nat->Nat) (k:Nat):List Value:=(List.range k).map fun j=>.int .u8 ((cryF key ct b d z j:Nat):Int)
theorem cryL_succ (key:Nat->Nat) (ct b d:Nat) (z:Nat->Nat) (k:Nat):cryL key ct b d z (k+1)=cryL key ct b d z k++[.int .u8 ((cryF key ct b d z k:Nat):Int)]:=by
 unfold cryL;rw[List.range_succ,List.map_append]
 rfl
theorem SL.rowOf {w:World} {A:Option Addr} {n c:Nat} {xs:List Value} {e:TypeId} {f:Nat->Value} (h:SL w e 1 A n c xs) (hx:∀j,j < n->xs[j]? = some (f j)):Row w w.heap.size A n f:=fun hn=>by
 obtain⟨b,o,hA,hb⟩:=h.some_ hn
 exact⟨b,o,hA,hb,fun j hj=>(h.cell hA (by omega)).trans (hx j hj)⟩
def RCry (key:Nat->Nat) (ct b d n:Nat) (z:Nat->Nat) (w:World) (e:Ending) (w':World):Prop:=
 ∃A c,e=.returned (.slice A n c)/\SL w' 5 1 A n c (cryL key ct b d z n)/\Fresh w.heap.size A/\Below w.heap.size w w'
theorem KeepF.setRow {F:Nat->Prop} {w w':World} (h:KeepF F w w') {g:Nat} (hg:F g) (cs:Array Value):KeepF F w (w'.setRow g cs):=
 ⟨h.os,h.tape,h.output,by rw[size_setRow];exact h.size,fun k hk hn=>(setRow_other w' g k cs (fun e=>hn (e ▸ hg))).trans (h.block k hk hn)⟩
theorem cry_xor (key:Nat->Nat) (ct b d:Nat) (z:Nat->Nat) (i x:Nat) (hx:x < 256) (hzi:z i=x) (y:Nat) (hy:y < 256) (hyi:aesF key (ctrB ct b d (i / 16)) (i % 16)=y):bits .xor .u8 (x:Int) (y:Int)=((cryF key ct b d z i:Nat):Int):=by
 rw[bx x y _ hx hy rfl];unfold cryF ksF;rw[hzi,hyi]
theorem rcrypt_ok (key:Nat->Nat) (ct b d:Nat) (hk:B16 key) (hc:ct < 4294967296) (hb:b < 32) (hd:d < 2) (A:Option Addr) (n c:Nat) (z:Nat->Nat) (hn2:n<=1000000) (hz:∀j,j < n->z j < 256) (w:World) (hr:Row w w.heap.size A n (fun j=>.int .u8 ((z j:Nat):Int))) :
  Calls Tryz.prog 37 #[.agg (b16 key),.int .u32 ct,.int .i64 b,.int .i64 d,.slice A n c] w (RCry key ct b d n z w):=by
 obtain⟨i0,hi0,hz0,hz1,hz2⟩:=info_parts Tryz.infoByte;have HBL:=zh (fun(q:Nat) V (hq:q < 18446744073709551616)=>rblock_ok ct b d q hc hb hd hq V);have HEN:=zh (fun q V=>renc_ok key (ctrB ct b d q) hk (ctrB_lt ct b d q) V);have HYB:=zh (fun q=>show B16 (aesF key (ctrB ct b d q))from aesF_lt hk (ctrB_lt ct b d q));have HXR:=zh (fun i x y h1 h2 h3 h4=>cry_xor key ct b d z i x h1 h2 y h3 h4);have HL0:=zh (show cryL key ct b d z 0=[]from rfl);have HLS:=zh (fun k=>cryL_succ key ct b d z k);have HZ8:=zh hz;have HR:=zh hr;obtain⟨EK,hEK⟩:∃EK:Nat->Nat->Nat,EK=fun q=>aesF key (ctrB ct b d q):=⟨_,rfl⟩
 have HEN2:Hid (∀q V,Calls Tryz.prog 69 #[.agg (b16 key),.agg (b16 (ctrB ct b d q))] V fun e w'=>e=.returned (.agg (b16 (EK q)))/\Below V.heap.size V w'):=zh (by rw[hEK];exact HEN.out);have HYB2:Hid (∀q,B16 (EK q)):=zh (by rw[hEK];exact HYB.out);have HXR2:Hid (∀i x y,x < 256->z i=x->y < 256->EK (i / 16) (i % 16)=y->bits .xor .u8 (x:Int) (y:Int)=((cryF key ct b d z i:Nat):Int)):=zh (by rw[hEK];exact HXR.out);obtain⟨CB,hCB⟩:∃CB:Nat->Array Value,CB=fun q=>b16 (ctrB ct b d q):=⟨_,rfl⟩
 have HBL2:Hid (∀(q:Nat) V,q < 18446744073709551616->Calls Tryz.prog 67 #[.int .u32 ct,.int .i64 b,.int .i64 d,.int .u64 (q:Nat)] V fun e w'=>e=.returned (.agg (CB q))/\Below V.heap.size V w'):=zh (by rw[hCB];exact HBL.out);obtain⟨KY,hKY⟩:∃KY,KY=b16 key:=⟨_,rfl⟩
 have HEN3:Hid (∀q V,Calls Tryz.prog 69 #[.agg KY,.agg (CB q)] V fun e w'=>e=.returned (.agg (b16 (EK q)))/\Below V.heap.size V w'):=zh (by rw[hKY,hCB];exact HEN2.out);have HSK:Hid ((Tryz.prog.info? 23).map (·.size)=some KY.size):=zh (by rw[hKY];exact size16 _);obtain⟨LF,hLF⟩:∃LF:Nat->List Value,LF=fun k=>cryL key ct b d z k:=⟨_,rfl⟩
 have HLF0:Hid (LF 0=[]):=zh (by rw[hLF];exact HL0.out);obtain⟨CF,hCF⟩:∃CF:Nat->Nat,CF=fun j=>cryF key ct b d z j:=⟨_,rfl⟩
 have HLFS:Hid (∀k,LF (k+1)=LF k++[.int .u8 ((CF k:Nat):Int)]):=zh (by rw[hLF,hCF];exact HLS.out);have HXR3:Hid (∀i x y,x < 256->z i=x->y < 256->EK (i / 16) (i % 16)=y->bits .xor .u8 (x:Int) (y:Int)=((CF i:Nat):Int)):=zh (by rw[hCF];exact HXR2.out);have HLFN:Hid (LF n=cryL key ct b d z n):=zh (by rw[hLF]);rw[<-hKY];obtain⟨Q,hQ⟩:∃Q:Ending->World->Prop,Q=RCry key ct b d n z w:=⟨_,rfl⟩
 have HQ:Hid (∀w' A c,SL w' 5 1 A n c (LF n)->Fresh w.heap.size A->Below w.heap.size w w'->Q (.returned (.slice A n c)) w'):=zh (by rw[hQ,HLFN.out];exact fun w' A c h1 h2 h3=>⟨A,c,rfl,h1,h2,h3⟩);rw[<-hQ];clear hk hc hb hd hr hz HBL HEN HYB HXR HL0 HLS hEK HEN2 HXR2 hCB hKY hLF hCF HLFN hQ;go_enter Tryz.func37,Tryz.ntmps37;go_upto_region 3 with (fail)
 obtain⟨kb,hkb⟩:∃kb,kb=w.heap.size:=⟨_,rfl⟩
 obtain⟨zb,hzb⟩:∃zb,zb=kb+1:=⟨_,rfl⟩
 refine wp_let (fun V=>Blk V kb 23 KY/\(∃Y,Blk V zb 23 (b16 Y)/\B16 Y)/\Below w.heap.size w V/\zb < V.heap.size) ⟨by rw[hkb];exact(Blk.new _ _ _).alloc _,⟨fun _=>0,by rw[hzb,hkb];exact blk_atA _ _ _ _ (by simp),fun _ _=>by show 0 < 256;decide⟩,((Below.refl _ w).alloc (Nat.le_refl _) _).alloc (by simp) _,by rw[hzb,hkb];simp⟩ ?_;rintro W1 ⟨b1,b2,b3,b4⟩;have BB:=zh (And.intro b1 (And.intro b2 (And.intro b3 b4)));have HSZ:=zh (show w.heap.size<=kb/\kb < zb by omega);rw[<-hkb,<-hzb];clear b1 b2 b3 b4 hkb hzb;go_wp2;go_loopw [11,13] (fun v11 v13 wr=>∃(i:Nat) (A':Option Addr) (c':Nat) (Y:Nat->Nat),i<=n/\v13=.int .i64 i/\v11=.slice A' i c'/\SL wr 5 1 A' i c' (LF i)/\(∀a,A'=some a->zb < a.block)/\Blk wr kb 23 KY/\Blk wr zb 23 (b16 Y)/\B16 Y/\(i % 16 ≠ 0->Y=EK (i / 16))/\Below w.heap.size w wr) (fun _ v13 _=>n-(intOf v13).toNat)
 case atStart=>
  obtain⟨b1,⟨Y,b2,b3⟩,b4,b5⟩:=BB.out
  exact⟨0,none,0,Y,by omega,rfl,rfl,by rw[HLF0.out];exact SL.nil _ _ _,fun a h=>(by cases h),b1,b2,b3,fun h=>absurd rfl h,b4⟩
 case round=>
  clear BB;obtain⟨i,A',c',Y,hi,rfl,rfl,hS,hA,hK,hY,hYB,hYE,hBW⟩:=hrel;have HS:=zh hS;have HA:=zh hA;have HK:=zh hK;have HY:=zh hY;have HYY:=zh hYB;have HYE:=zh hYE;have HBW:=zh hBW;clear hS hA hK hY hYB hYE hBW;have k0:(0:Int)<=(i:Int):=by omega
  by_cases hlt:i < n;rotate_left
  ·have e1:i=n:=by omega
   have k1:¬(i:Int) < (n:Int):=by omega
   have HE1:=zh e1;clear e1;go_wp2;have e2:=HE1.out;subst e2
   exact HQ.out _ _ _ HS.out (fun a ha=>by have:=HA.out a ha;have:=HSZ.out;omega) HBW.out
  have k1:(i:Int) < (n:Int):=by omega
  have hq1:(i:Int) / 16=((i / 16:Nat):Int):=by omega
  have hq2:(i:Int) % 16=((i % 16:Nat):Int):=by omega
  obtain⟨q,hq⟩:∃q,q=i / 16:=⟨_,rfl⟩
  obtain⟨m,hm⟩:∃m,m=i % 16:=⟨_,rfl⟩
  rw[<-hq]at hq1;rw[<-hm]at hq2;have HQM:=zh (And.intro hq hm);have hm16:m < 16:=by omega
  have hm17:(m:Int) < 16:=by omega
  have hq3:q < 18446744073709551616:=by omega
  clear hq hm;have h16:=HZ8.out i hlt;obtain⟨lb,lo,hAA,hlb,hlc⟩:=HR.out (by omega);subst hAA;have HLB:=zh hlb;have HLC:=zh hlc;obtain⟨x,hx⟩:∃x,x=z i:=⟨_,rfl⟩
  have HX:=zh hx;rw[<-hx]at h16;have HCI:Hid (w.cell? ⟨lb,lo+i,none⟩=some (.int .u8 (x:Int))):=zh (by rw[hx];exact hlc i hlt);clear hlb hlc hx;have hq4:(0:Int)<=(q:Int):=by omega
  have ht:(i:Int).tmod 16=(m:Int):=by rw[Int.tmod_eq_emod_of_nonneg (by omega)];omega
  have hq5:(q:Int) < 18446744073709551616:=by omega
  have wq1:IntKind.i64.wrap (q:Int)=(q:Int):=by simp[IntKind.wrap_i64];omega
  have wq2:IntKind.u64.wrap (q:Int)=(q:Int):=by simp[IntKind.wrap_u64];omega
  by_cases hm0:m=0
  ·have t0:((m:Int) == 0)=true:=by rw[hm0];rfl
   have HM0:=zh hm0;clear hm0;have HUK:=zh Tryz.underlying23;have HSKL:Hid ((Tryz.prog.info? 23).map (·.size)=some KY.toList.length):=zh (by rw[Array.length_toList];exact HSK.out);have HKR:=zh (fun(W':World) (hb:KeepF (fun k=>k=zb) wr W')=>Blk.range (hb.blk HK.out (by have:=HSZ.out;omega)) KY.toList (by rw[Array.toArray_toList]));have HEN4:Hid (∀V,Calls Tryz.prog 69 #[.agg KY.toList.toArray,.agg (CB q)] V fun e w'=>e=.returned (.agg (b16 (EK q)))/\Below V.heap.size V w'):=zh (by rw[Array.toArray_toList];exact fun V=>HEN3.out q V);go_upto_region 7 with (fail)
   obtain⟨w0,hw0⟩:∃w0,w0=wr.drew:=⟨_,rfl⟩
   refine wp_region_held_drew (S:=fun w'=>KeepF (fun k=>k=zb) wr w') (by kernel_rfl) ((KeepF.refl (F:=fun k=>k=zb) (w:=wr)).drew) (fun hHeld=>?_);rw[<-hw0];rw[<-hw0]at hHeld;have hb0:Below wr.heap.size wr w0:=by rw[hw0];exact(Below.refl _ _).drew
   clear hw0;refine' tkY (i:=0) (x:=some 23) (v:=_) rfl (yieldsIf_load_mid (by rfl) _ _ rfl kb 0 rfl KY.toList _ (fun w h=>HKR.out w h) HUK.out rfl HSKL.out) ?_;refine tkR (i:=1) (x:=some 24) (v:=.int .u32 ct) rfl ?_;refine tkR (i:=2) (x:=some 25) (v:=.int .i64 b) rfl ?_;refine tkR (i:=3) (x:=some 26) (v:=.int .i64 d) rfl ?_;refine tkR (i:=4) (x:=some 27) (v:=.int .i64 i) rfl ?_;refine tkS (i:=5) (x:=some 28) (v:=.int .i64 q) rfl ?_;refine tkS (i:=6) (x:=some 29) (v:=.int .u64 q) rfl ?_;refine rdH (i:=7) (x:=some 30) rfl fun K hK=>?_;go_simp;refine(HBL2.out q w0 hq3).mono ?_;rintro e u1 ⟨rfl,hB⟩;dsimp only;have hE1:KeepF (fun k=>k=zb) wr u1:=hHeld.trans (KeepF.of_below (F:=fun k=>k=zb) hB) (fun _ _ h=>h);have hb1:Below wr.heap.size wr u1:=hb0.trans (hB.mono hb0.size);refine hK.out _ _ hE1 (fun hHeld=>?_);clear hK K hB
   try simp only[Act.put,qa,qb,qc]
   refine rdH (i:=8) (x:=some 31) rfl fun K hK=>?_;go_simp;refine(HEN4.out u1).mono ?_;rintro e u2 ⟨rfl,hB⟩;dsimp only;have hE2:KeepF (fun k=>k=zb) wr u2:=hHeld.trans (KeepF.of_below (F:=fun k=>k=zb) hB) (fun _ _ h=>h);have hb2:Below wr.heap.size wr u2:=hb1.trans (hB.mono hb1.size);have hY0:=zh (show Blk u2 zb 23 (b16 Y)from HY.out.below hb2 HY.out.lt);refine hK.out _ _ hE2 (fun hHeld=>?_);clear hK K hB
   try simp only[Act.put,qa,qb,qc]
   refine rdH (i:=9) (x:=none) rfl fun K hK=>?_;refine wp_store_row _ _ _ rfl zb (b16 (EK q)) rfl rfl 23 _ hY0.out (size16 _) (by rw[b16_size,b16_size]) (b16_one _) ?_;have hE3:KeepF (fun k=>k=zb) wr (u2.setRow zb (b16 (EK q))):=hE2.setRow rfl _;refine hK.out _ _ hE3 (fun hHeld=>?_);clear hK K
   try simp only[Act.put]
   refine wpAnyH_done (by kernel_rfl) ?_ _;refine then_let (fun V=>SL V 5 1 A' i c' (LF i)/\Blk V kb 23 KY/\Blk V zb 23 (b16 (EK q))/\Below w.heap.size w V) ⟨HS.out.keepF hE3 (fun a ha e=>by have:=HA.out a ha;omega),hE3.blk HK.out (by have:=HSZ.out;omega),setRow_heap u2 zb (b16 Y) _ 23 (0,0) hY0.out,KeepF.below HBW.out hE3 (fun k hk=>by have:=HSZ.out;omega) HBW.out.size⟩ ?_;rintro V ⟨b1,b2,b3,b4⟩;have VS:=zh b1;have VK:=zh b2;have VY:=zh b3;have VB:=zh b4;clear b1 b2 b3 b4 hE1 hE2 hE3 hY0 hb0 hb1 hb2 hHeld;obtain⟨y,hy⟩:∃y,y=EK q m:=⟨_,rfl⟩
   have hy8:y < 256:=by rw[hy];exact HYB2.out q m hm16
   have hxor:=HXR3.out i x y h16 HX.out.symm hy8 (by rw[hy,HQM.out.1,HQM.out.2]);have HYC:=zh (show ∀W',(∃e:KeepF (fun k=>zb < k) V W',True)->W'.cell? ⟨lb,lo+i,none⟩=some (.int .u8 (x:Int))/\W'.cell? ⟨zb,m,none⟩=some (.int .u8 (y:Int))from fun W' ⟨hW,_⟩=>⟨(hW.cell (p:=⟨lb,lo+i,none⟩) (Nat.lt_of_lt_of_le HLB.out VB.out.size) (by have:=HLB.out;have:=HSZ.out;show ¬zb < lb;omega)).trans ((VB.out.cell (p:=⟨lb,lo+i,none⟩) HLB.out).trans HCI.out),by rw[hy];exact(hW.cell (p:=⟨zb,m,none⟩) VY.out.lt (by show ¬zb < zb;omega)).trans ((VY.out.cell m).trans (b16_at _ hm16))⟩);have HSL:=zh (show ∀W',KeepF (fun k=>zb < k) V W'->W'=V.drew.alloc (.cells #[.int .u8 ((CF i:Nat):Int)] 5)->SL W' 5 1 A' i c' (LF i)from fun W' _ e=>by rw[e];exact VS.out.next (((Below.refl _ V).drew).alloc (Nat.le_refl _) _));clear hy;go_upto_region 8 with (fail)
   refine wp_region_held_drew (S:=fun w'=>KeepF (fun k=>zb < k) V w') (by kernel_rfl) ((KeepF.refl (F:=fun k=>zb < k) (w:=V)).drew) (fun hHeld=>?_);refine tkR (i:=0) (x:=some 32) (v:=.slice A' i c') rfl ?_;refine tkR (i:=1) (x:=some 33) (v:=.slice (some ⟨lb,lo,none⟩) n c) rfl ?_;refine tkR (i:=2) (x:=some 34) (v:=.int .i64 i) rfl ?_;refine tkS (i:=3) (x:=some 35) (v:=.pointer (some ⟨lb,lo+i,none⟩)) rfl ?_;refine tkY (i:=4) (x:=some 36) (v:=.int .u8 x) rfl (.inl ⟨by rfl,fun W hW=>(by have s0:=(HYC.out W ⟨hW,trivial⟩).1;go_simp)⟩) ?_;refine tkR (i:=5) (x:=some 37) (v:=.int .i64 i) rfl ?_;refine tkS (i:=6) (x:=some 38) (v:=.int .i64 m) rfl ?_;refine tkS (i:=7) (x:=some 39) (v:=.pointer (some ⟨zb,m,none⟩)) rfl ?_;refine tkY (i:=8) (x:=some 40) (v:=.int .u8 y) rfl (.inl ⟨by rfl,fun W hW=>(by have s0:=(HYC.out W ⟨hW,trivial⟩).2;go_simp)⟩) ?_;refine tkS (i:=9) (x:=some 41) (v:=.int .u8 (CF i:Nat)) rfl ?_;refine rdH (i:=10) (x:=some 42) rfl fun K hK=>?_;go_simp;have hE:KeepF (fun k=>zb < k) V (V.drew.alloc (.cells #[.int .u8 ((CF i:Nat):Int)] 5)):=(KeepF.refl (F:=fun k=>zb < k) (w:=V)).drew.alloc _;refine hK.out _ _ hE (fun hHeld=>?_);clear hK K
   try simp only[Act.put,qa,qb,qc]
   refine rdH (i:=11) (x:=some 43) rfl fun K hK=>?_;have HSLV:=HSL.out _ hE rfl;refine wp_sl_append _ _ 35 35 rfl _ 5 i0 (.int .u8 0) 1 1 Tryz.underlying35 hi0 hz0 hz1 hz2 rfl A' i c' (LF i) rfl HSLV (.slice (some ⟨V.heap.size,0,none⟩) 1 1) rfl 1 [.int .u8 ((CF i:Nat):Int)]
    (Src.ofSlice _ Tryz.underlying35 ⟨V.heap.size,0,none⟩ 1 1 [.int .u8 ((CF i:Nat):Int)] (by rfl) (fun j u hu=>by
     cases j with
     | zero=>rw[Addr.add_lit];simp at hu;subst hu;exact(blk_atA V.drew 5 #[.int .u8 ((CF i:Nat):Int)] V.heap.size rfl).cell 0
     | succ j=>simp at hu) (by intro u hu;simp at hu;subst hu;rfl)) (by omega) (by unfold maxLen;omega) (by omega) (fun A2 c2 w6 hs6 hk6 ho6=>?_)
   have hE6:KeepF (fun k=>zb < k) V w6:=hE.trans hk6 (fun k _ ⟨a,ha,e⟩=>by rw[e];exact HA.out a ha);have HS6:=zh (show SL w6 5 1 A2 (i+1) c2 (LF (i+1)) by rw[HLFS.out];exact hs6);have HA6:=zh (show ∀a,A2=some a->zb < a.block from fun a ha=>by
    rcases ho6 a ha with ⟨a',h1,h2⟩ | h2
    ·rw[h2];exact HA.out a' h1
    ·have h3:V.heap.size<=a.block:=Nat.le_trans (by simp) h2;have:=VY.out.lt;omega)
   refine hK.out _ _ hE6 (fun hHeld=>?_);clear hK K hs6 hk6 ho6
   try simp only[Act.put,qa,qb,qc]
   refine rdH (i:=12) (x:=some 11) rfl fun K hK=>?_;go_simp;refine hK.out _ _ hE6 (fun hHeld=>?_);clear hK K
   try simp only[Act.put,qa,qb,qc]
   refine wpAnyH_done (by kernel_rfl) ?_ _;have HE6:=zh hE6;clear hHeld hE hE6 HSLV;go_wp2;go_roundw
   case rel=>
    refine⟨i+1,A2,c2,EK q,by omega,by go_num,rfl,HS6.out,HA6.out,HE6.out.blk VK.out (by have:=HSZ.out;omega),HE6.out.blk VY.out (by omega),HYB2.out q,fun h=>?_,KeepF.below VB.out HE6.out (fun k hk=>by have:=HSZ.out;omega) VB.out.size⟩;have:=HQM.out;rw[show(i+1) / 16=q by omega]
   case measure=>simp[intOf];omega
  ·have t0:((m:Int) == 0)=false:=by rw[beq_eq_false_iff_ne];omega
   have hYE2:=HYE.out (by rw[<-HQM.out.2];exact hm0);rw[<-HQM.out.1]at hYE2;refine wp_let (fun V=>SL V 5 1 A' i c' (LF i)/\Blk V kb 23 KY/\Blk V zb 23 (b16 (EK q))/\Below w.heap.size w V) ⟨HS.out,HK.out,by rw[<-hYE2];exact HY.out,HBW.out⟩ ?_;rintro V ⟨b1,b2,b3,b4⟩;have VS:=zh b1;have VK:=zh b2;have VY:=zh b3;have VB:=zh b4;clear b1 b2 b3 b4 hYE2 hm0;obtain⟨y,hy⟩:∃y,y=EK q m:=⟨_,rfl⟩
   have hy8:y < 256:=by rw[hy];exact HYB2.out q m hm16
   have hxor:=HXR3.out i x y h16 HX.out.symm hy8 (by rw[hy,HQM.out.1,HQM.out.2]);have HYC:=zh (show ∀W',(∃e:KeepF (fun k=>zb < k) V W',True)->W'.cell? ⟨lb,lo+i,none⟩=some (.int .u8 (x:Int))/\W'.cell? ⟨zb,m,none⟩=some (.int .u8 (y:Int))from fun W' ⟨hW,_⟩=>⟨(hW.cell (p:=⟨lb,lo+i,none⟩) (Nat.lt_of_lt_of_le HLB.out VB.out.size) (by have:=HLB.out;have:=HSZ.out;show ¬zb < lb;omega)).trans ((VB.out.cell (p:=⟨lb,lo+i,none⟩) HLB.out).trans HCI.out),by rw[hy];exact(hW.cell (p:=⟨zb,m,none⟩) VY.out.lt (by show ¬zb < zb;omega)).trans ((VY.out.cell m).trans (b16_at _ hm16))⟩);have HSL:=zh (show ∀W',KeepF (fun k=>zb < k) V W'->W'=V.drew.alloc (.cells #[.int .u8 ((CF i:Nat):Int)] 5)->SL W' 5 1 A' i c' (LF i)from fun W' _ e=>by rw[e];exact VS.out.next (((Below.refl _ V).drew).alloc (Nat.le_refl _) _));clear hy;go_upto_region 8 with (fail)
   refine wp_region_held_drew (S:=fun w'=>KeepF (fun k=>zb < k) V w') (by kernel_rfl) ((KeepF.refl (F:=fun k=>zb < k) (w:=V)).drew) (fun hHeld=>?_);refine tkR (i:=0) (x:=some 32) (v:=.slice A' i c') rfl ?_;refine tkR (i:=1) (x:=some 33) (v:=.slice (some ⟨lb,lo,none⟩) n c) rfl ?_;refine tkR (i:=2) (x:=some 34) (v:=.int .i64 i) rfl ?_;refine tkS (i:=3) (x:=some 35) (v:=.pointer (some ⟨lb,lo+i,none⟩)) rfl ?_;refine tkY (i:=4) (x:=some 36) (v:=.int .u8 x) rfl (.inl ⟨by rfl,fun W hW=>(by have s0:=(HYC.out W ⟨hW,trivial⟩).1;go_simp)⟩) ?_;refine tkR (i:=5) (x:=some 37) (v:=.int .i64 i) rfl ?_;refine tkS (i:=6) (x:=some 38) (v:=.int .i64 m) rfl ?_;refine tkS (i:=7) (x:=some 39) (v:=.pointer (some ⟨zb,m,none⟩)) rfl ?_;refine tkY (i:=8) (x:=some 40) (v:=.int .u8 y) rfl (.inl ⟨by rfl,fun W hW=>(by have s0:=(HYC.out W ⟨hW,trivial⟩).2;go_simp)⟩) ?_;refine tkS (i:=9) (x:=some 41) (v:=.int .u8 (CF i:Nat)) rfl ?_;refine rdH (i:=10) (x:=some 42) rfl fun K hK=>?_;go_simp;have hE:KeepF (fun k=>zb < k) V (V.drew.alloc (.cells #[.int .u8 ((CF i:Nat):Int)] 5)):=(KeepF.refl (F:=fun k=>zb < k) (w:=V)).drew.alloc _;refine hK.out _ _ hE (fun hHeld=>?_);clear hK K
   try simp only[Act.put,qa,qb,qc]
   refine rdH (i:=11) (x:=some 43) rfl fun K hK=>?_;have HSLV:=HSL.out _ hE rfl;refine wp_sl_append _ _ 35 35 rfl _ 5 i0 (.int .u8 0) 1 1 Tryz.underlying35 hi0 hz0 hz1 hz2 rfl A' i c' (LF i) rfl HSLV (.slice (some ⟨V.heap.size,0,none⟩) 1 1) rfl 1 [.int .u8 ((CF i:Nat):Int)]
    (Src.ofSlice _ Tryz.underlying35 ⟨V.heap.size,0,none⟩ 1 1 [.int .u8 ((CF i:Nat):Int)] (by rfl) (fun j u hu=>by
     cases j with
     | zero=>rw[Addr.add_lit];simp at hu;subst hu;exact(blk_atA V.drew 5 #[.int .u8 ((CF i:Nat):Int)] V.heap.size rfl).cell 0
     | succ j=>simp at hu) (by intro u hu;simp at hu;subst hu;rfl)) (by omega) (by unfold maxLen;omega) (by omega) (fun A2 c2 w6 hs6 hk6 ho6=>?_)
   have hE6:KeepF (fun k=>zb < k) V w6:=hE.trans hk6 (fun k _ ⟨a,ha,e⟩=>by rw[e];exact HA.out a ha);have HS6:=zh (show SL w6 5 1 A2 (i+1) c2 (LF (i+1)) by rw[HLFS.out];exact hs6);have HA6:=zh (show ∀a,A2=some a->zb < a.block from fun a ha=>by
    rcases ho6 a ha with ⟨a',h1,h2⟩ | h2
    ·rw[h2];exact HA.out a' h1
    ·have h3:V.heap.size<=a.block:=Nat.le_trans (by simp) h2;have:=VY.out.lt;omega)
   refine hK.out _ _ hE6 (fun hHeld=>?_);clear hK K hs6 hk6 ho6
   try simp only[Act.put,qa,qb,qc]
   refine rdH (i:=12) (x:=some 11) rfl fun K hK=>?_;go_simp;refine hK.out _ _ hE6 (fun hHeld=>?_);clear hK K
   try simp only[Act.put,qa,qb,qc]
   refine wpAnyH_done (by kernel_rfl) ?_ _;have HE6:=zh hE6;clear hHeld hE hE6 HSLV;go_wp2;go_roundw
   case rel=>
    refine⟨i+1,A2,c2,EK q,by omega,by go_num,rfl,HS6.out,HA6.out,HE6.out.blk VK.out (by have:=HSZ.out;omega),HE6.out.blk VY.out (by omega),HYB2.out q,fun h=>?_,KeepF.below VB.out HE6.out (fun k hk=>by have:=HSZ.out;omega) VB.out.size⟩;have:=HQM.out;rw[show(i+1) / 16=q by omega]
   case measure=>simp[intOf];omega
def pduL (cf:Cfg) (ct n:Nat) (z:Nat->Nat):List Value:=(List.range (pduN cf n)).map fun j=>.int .u8 ((pduZ cf ct n z j:Nat):Int)
def PduC (cf:Cfg) (ct n:Nat) (z:Nat->Nat) (w:World) (e:Ending) (w':World):Prop:=
 ∃A c,e=.returned (.slice A (pduN cf n) c)/\SL w' 5 1 A (pduN cf n) c (pduL cf ct n z)/\Fresh w.heap.size A/\Below w.heap.size w w'
theorem pduL_plain {cf:Cfg} (ct n:Nat) (z:Nat->Nat) (h:cf.ig=false):pduL cf ct n z=[.int .u8 ((hdB ct 0:Nat):Int),.int .u8 ((hdB ct 1:Nat):Int)]++cryL (nf cf.key) ct cf.b.toNat cf.d.toNat z n:=by
 have hpn:pduN cf n=2+n:=by unfold pduN plainN;rw[if_neg (by rw[h];decide)]
 unfold pduL cryL;rw[hpn];apply List.ext_getElem?;intro j;by_cases hj:j < 2+n
 ·rw[List.getElem?_map,List.getElem?_range hj];by_cases h2:j < 2
  ·rcases (by omega:j=0\/j=1)with rfl | rfl<;>simp[pduZ,catF]
  ·rw[List.getElem?_append_right (by simp;omega),List.getElem?_map,List.getElem?_range (by simp;omega)];simp only[Option.map_some,List.length_cons,List.length_nil];unfold pduZ;rw[show catF (hdB ct) 2 (cryF (nf cf.key) ct cf.b.toNat cf.d.toNat (plainZ cf ct n z)) j=cryF (nf cf.key) ct cf.b.toNat cf.d.toNat (plainZ cf ct n z) (j-2) by unfold catF;rw[if_neg h2],pdu_plain h (by omega)]
 ·rw[List.getElem?_eq_none (by simp;omega),List.getElem?_eq_none (by simp;omega)]
theorem cryL_one {key:Nat->Nat} {ct b d:Nat} {z:Nat->Nat} {n:Nat} {u:Value} (h:u∈cryL key ct b d z n):u.oneCell'=true:=by
 obtain⟨j,_,rfl⟩:=List.mem_map.1 h
 rfl
theorem src3 {w:World} {b o n c:Nat} {xs:List Value} (h:SL w 5 1 (some ⟨b,o,none⟩) n c xs) (h1:∀u,u∈xs->u.oneCell'=true:=by exact fun u hu=>cryL_one hu):Src Tryz.prog 1 35 (.slice (some ⟨b,o,none⟩) n c) n xs w:=
 Src.ofSlice _ Tryz.underlying35 ⟨b,o,none⟩ n c xs h.len (fun j u hu=>by
  have hj:j < n*1:=by have:=(List.getElem?_eq_some_iff.1 hu).1;rwa [h.len]at this
  rw[Addr.add_lit]
  exact(h.cell rfl hj).trans hu) h1
theorem rpdu_plain (cf:Cfg) (hok:cf.Ok) (hv:cf.Valid) (hig:cf.ig=false) (ct:Nat) (hct:ct < 4294967296) (A:Option Addr) (n c:Nat) (z:Nat->Nat) (hp1:1<=n) (hp9:n<=9000) (w:World) (hr:Row w w.heap.size A n (fun j=>.int .u8 ((z j:Nat):Int))) (hz:∀j,j < n->z j < 256) :
  Calls Tryz.prog 12 #[.agg cf.arr,.int .u32 ct,.slice A n c] w (PduC cf ct n z w):=by
 have HR:=zh hr;have HZ:=zh hz;have c0:(0:Int)<=(ct:Int):=by omega
 have c1:(ct:Int) < 4294967296:=by omega
 have HIG:=zh hig;have hpn:pduN cf n=2+n:=by unfold pduN plainN;rw[if_neg (by rw[hig];decide)]
 obtain⟨B,hB⟩:∃B:Nat,B=cf.b.toNat:=⟨_,rfl⟩
 obtain⟨D,hD⟩:∃D:Nat,D=cf.d.toNat:=⟨_,rfl⟩
 have HBI:Hid (cf.b=(B:Int)):=zh (by rw[hB];have:=hv.1;omega);have HDI:Hid (cf.d=(D:Int)):=zh (by rw[hD];have:=hv.2.2.1;omega);have HCR:=zh (fun A2 c2 V (h2:Row V V.heap.size A2 n (fun j=>.int .u8 ((z j:Nat):Int)))=>rcrypt_ok (nf cf.key) ct B D hok.keyN hct (by rw[hB];have:=hv.2.1;omega) (by rw[hD];have:=hv.2.2.1;omega) A2 n c2 z (by omega) hz V h2);have HP:Hid (1<=n/\n<=9000):=zh ⟨hp1,hp9⟩;have HL:=zh (show pduL cf ct n z=[.int .u8 ((hdB ct 0:Nat):Int),.int .u8 ((hdB ct 1:Nat):Int)]++cryL (nf cf.key) ct B D z n by rw[hB,hD];exact pduL_plain ct n z hig);have HH0:Hid (((hdB ct 0:Nat):Int)=128+(ct:Int) / 256 % 16):=zh (by unfold hdB;rw[if_pos rfl];omega);have HH1:Hid (((hdB ct 1:Nat):Int)=(ct:Int) % 256):=zh (by unfold hdB;rw[if_neg (by decide)];omega);obtain⟨Q,hQ⟩:∃Q:Ending->World->Prop,Q=PduC cf ct n z w:=⟨_,rfl⟩
 have HQ:Hid (∀w' A c,SL w' 5 1 A (2+n) c (pduL cf ct n z)->Fresh w.heap.size A->Below w.heap.size w w'->Q (.returned (.slice A (2+n) c)) w'):=zh (by rw[hQ];exact fun w' A c h1 h2 h3=>⟨A,c,by rw[hpn],by rw[hpn];exact h1,h2,h3⟩);rw[<-hQ];obtain⟨CA,hCA⟩:∃CA,CA=cf.arr:=⟨_,rfl⟩
 have HC0:Hid (CA[0]? = some (.int .i64 (B:Int))):=zh (by rw[hCA,cf.arr_at (by decide),show cf.cell 0=.int .i64 cf.b from rfl,HBI.out]);have HC1:Hid (CA[1]? = some (.int .i64 (D:Int))):=zh (by rw[hCA,cf.arr_at (by decide),show cf.cell 1=.int .i64 cf.d from rfl,HDI.out]);have HC34:Hid (CA[34]? = some (.bool false)):=zh (by rw[hCA,cf.arr_at (by decide),show cf.cell 34=.bool cf.ig from rfl,hig]);have HCK:Hid (∀j,j < 16->CA[2+j]? = some (.int .u8 ((nf cf.key j:Nat):Int))):=zh (by
  rw[hCA];intro j hj;rw[cf.arr_at (by omega)];unfold Cfg.cell;rw[if_neg (by omega),if_neg (by omega),if_pos (by omega),show 2+j-2=j by omega,nf_cast hok.key hj])
 rw[<-hCA];obtain⟨KL,hKL⟩:∃KL,KL=(b16 (nf cf.key)).toList:=⟨_,rfl⟩
 have HS16:Hid ((Tryz.prog.info? 23).map (·.size)=some KL.length):=zh (by rw[hKL,Array.length_toList,b16_size];kernel_rfl);have HKL:Hid (∀j,j < 16->KL[j]? = some (.int .u8 ((nf cf.key j:Nat):Int))):=zh (by rw[hKL];intro j hj;rw[Array.getElem?_toList,b16_at _ hj]);have HKS:Hid (KL.length=16):=zh (by rw[hKL,Array.length_toList,b16_size]);have HCR2:Hid (∀A2 c2 V,Row V V.heap.size A2 n (fun j=>.int .u8 ((z j:Nat):Int))->Calls Tryz.prog 37 #[.agg KL.toArray,.int .u32 ct,.int .i64 B,.int .i64 D,.slice A2 n c2] V (RCry (nf cf.key) ct B D n z V)):=zh (by rw[hKL,Array.toArray_toList];exact HCR.out);obtain⟨i0,hi0,hz0,hz1,hz2⟩:=info_parts Tryz.infoByte;clear HCR hKL hQ hCA hr hz hct hp1 hp9 hok hv hig hB hD hpn HBI HDI;go_enter Tryz.func12,Tryz.ntmps12;go_upto_region 2 with (fail)
 obtain⟨cb,hcb⟩:∃cb,cb=w.heap.size:=⟨_,rfl⟩
 have HCB:=zh hcb;obtain⟨lb,lo,hAA,hlb,hlc⟩:=HR.out (by have:=HP.out;omega);subst hAA;rw[<-HH0.out,<-HH1.out];obtain⟨HDV,hHDV⟩:∃L:List Value,L=[.int .u8 ((hdB ct 0:Nat):Int),.int .u8 ((hdB ct 1:Nat):Int)]:=⟨_,rfl⟩
 have HHL:=zh (show HDV.length=2 by rw[hHDV];rfl);refine wp_let (fun V=>Blk V cb 25 CA/\SL V 5 1 (some ⟨cb+1,0,none⟩) 2 2 HDV/\Below w.heap.size w V/\cb+1 < V.heap.size) ⟨by rw[hcb];exact(Blk.new _ _ _).alloc _,by
  rw[hcb,hHDV]
  exact⟨rfl,.inr ⟨_,0,_,rfl,blk_atA _ _ _ _ (by simp),Nat.le_refl _,by unfold maxLen;omega,by simp,fun j hj=>by rw[Nat.zero_add];simp⟩⟩,((Below.refl _ w).alloc (Nat.le_refl _) _).alloc (by simp) _,by rw[hcb];simp⟩ ?_
 rintro V ⟨b1,b2,b3,b4⟩;have B1:=zh b1;have B2:=zh b2;have B3:=zh b3;rw[<-hcb];have HSRC:Hid (Src Tryz.prog 1 35 (.slice (some ⟨lb,lo,none⟩) n c) n ((List.range n).map fun j=>.int .u8 ((z j:Nat):Int)) V):=zh (Src.ofSlice _ Tryz.underlying35 ⟨lb,lo,none⟩ n c _ (by simp) (fun j u hu=>by
   have hj:j < n:=by have:=(List.getElem?_eq_some_iff.1 hu).1;simpa using this
   rw[Addr.add_lit,b3.cell (p:=⟨lb,lo+j,none⟩) hlb,hlc j hj,<-hu];simp[hj]) (fun u hu=>by
    obtain⟨j,_,rfl⟩:=List.mem_map.1 hu
    rfl))
 have HHV:=zh hHDV;clear b1 b2 b3 hcb hlb hlc hHDV;go_upto_region 3 with (refine wpList_sl_append rfl _ _ _ _ rfl V 5 i0 (.int .u8 0) 1 1 Tryz.underlying35 hi0 hz0 hz1 hz2 rfl none 0 0 _ rfl (SL.nil _ _ _) _ rfl n ((List.range n).map fun j=>.int .u8 ((z j:Nat):Int)) HSRC.out HP.out.1 (by have:=HP.out;unfold maxLen;omega) (by have:=HP.out;omega) ?_;intro A2 c2 V2 hs2 hk2 ha2;have HS2:=zh hs2;have HK2:=zh hk2;have HA2:=zh ha2;clear hs2 hk2 ha2)
 have hbV:Below V.heap.size V V2:=KeepF.below (Below.refl _ _) HK2.out (fun k ⟨a,ha,_⟩=>by cases ha) (Nat.le_refl _);have HBV:=zh hbV;have HB2:=zh (B3.out.trans (hbV.mono B3.out.size));have C1:=zh (B1.out.below hbV B1.out.lt);have C2:=zh (B2.out.next hbV);have x34:V2.cell? ⟨cb,34,none⟩=some (.bool false):=(C1.out.cell 34).trans HC34.out;have x0:V2.cell? ⟨cb,0,none⟩=some (.int .i64 (B:Int)):=(C1.out.cell 0).trans HC0.out;have x1:V2.cell? ⟨cb,1,none⟩=some (.int .i64 (D:Int)):=(C1.out.cell 1).trans HC1.out;have HKR:=zh (show V2.rangeAt cb 2 KL from fun j v hv=>by
  have hj:j < 16:=by have:=(List.getElem?_eq_some_iff.1 hv).1;rw[HKS.out]at this;exact this
  rw[C1.out.cell (2+j),HCK.out j hj,<-hv,HKL.out j hj])
 have HR2:=zh (show Row V2 V2.heap.size A2 n (fun j=>.int .u8 ((z j:Nat):Int))from (show SL V2 5 1 A2 n c2 ((List.range n).map fun j=>.int .u8 ((z j:Nat):Int))from by simpa using HS2.out).rowOf (fun j hj=>by simp[hj]));clear hbV;have HUK:=zh Tryz.underlying23;go_wp2_with (first
  | (refine wpList_load_mid rfl 23 _ rfl cb 2 rfl KL _ HKR.out HUK.out rfl HS16.out ?_)
  | (go_at_call 37;refine(HCR2.out A2 c2 V2 HR2.out).mono ?_;rintro e V3 ⟨A3,c3,rfl,hs3,hf3,hb3⟩;obtain⟨b3,o3,rfl,hlt3⟩:=hs3.some_ HP.out.1;have HSL3:=zh (C2.out.next hb3);have HSRC3:=zh (src3 hs3);have HF3:=zh hf3;have HB3:=zh hb3;clear hs3 hf3 hb3 hlt3)
  | (refine wpList_sl_append rfl _ _ _ _ rfl V3 5 i0 (.int .u8 0) 1 1 Tryz.underlying35 hi0 hz0 hz1 hz2 rfl (some ⟨cb+1,0,none⟩) 2 2 HDV rfl HSL3.out _ rfl n _ HSRC3.out HP.out.1 (by have:=HP.out;unfold maxLen;omega) (by have:=HP.out;omega) ?_;intro A9 c9 V9 hs9 hk9 ha9;have HS9:=zh hs9;have HK9:=zh hk9;have HA9:=zh ha9;clear hs9 hk9 ha9))
 refine HQ.out _ _ _ (by rw[HL.out,<-HHV.out];exact HS9.out) (fun a ha=>?_) ?_
 ·rcases HA9.out a ha with ⟨a',h1,h2⟩ | h2
  ·cases h1
   rw[h2,HCB.out]
   exact Nat.le_succ _
  ·exact Nat.le_trans HB2.out.size (Nat.le_trans HB3.out.size h2)
 ·exact KeepF.below (HB2.out.trans (HB3.out.mono HB2.out.size)) HK9.out (fun k ⟨a,ha,e⟩=>by cases ha;rw[e,HCB.out];exact Nat.le_succ _) (Nat.le_trans HB2.out.size HB3.out.size)
end Go.Proofs.YtnadmdadcpemnaaGreat

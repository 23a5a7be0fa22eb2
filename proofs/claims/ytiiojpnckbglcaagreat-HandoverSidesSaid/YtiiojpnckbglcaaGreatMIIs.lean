import Derived.Test.YtiiojpnckbglcaaGreatMDJs
import Derived.Test.YtiiojpnckbglcaaGreatMIDs
import Derived.Test.YtiiojpnckbglcaaGreatMIFs
import Derived.Lib.BitFns
import Derived.Laws.Bits64
import Derived.Laws.Bits64b
import Derived.Deep.Cut
import Derived.Deep.CutRange
import Derived.Deep.LoopGhost
set_option maxRecDepth 1000000
set_option maxHeartbeats 16000000
set_option linter.unusedVariables false
set_option linter.unusedSimpArgs false
namespace Go.Proofs.YtiiojpnckbglcaaGreat
open Go.RowKit Go.Sort
attribute [local go_sem ↓] Go.wp_at_zero Go.wp_at_succ
theorem yh (x:Nat) (h0:0<=x) (hx:x < 32) (w:World):Calls Tryz.prog 167 #[.int .u64 x] w fun e w'=>e=.returned (.int .i64 (Lib.bitLen x))/\w'=w:=by
 rcases (by omega:x=0\/x=1\/x=2\/x=3\/x=4\/x=5\/x=6\/x=7\/x=8\/x=9\/x=10\/x=11\/x=12\/x=13\/x=14\/x=15\/x=16\/x=17\/x=18\/x=19\/x=20\/x=21\/x=22\/x=23\/x=24\/x=25\/x=26\/x=27\/x=28\/x=29\/x=30\/x=31)with rfl | rfl | rfl | rfl | rfl | rfl | rfl | rfl | rfl | rfl | rfl | rfl | rfl | rfl | rfl | rfl | rfl | rfl | rfl | rfl | rfl | rfl | rfl | rfl | rfl | rfl | rfl | rfl | rfl | rfl | rfl | rfl
 all_goals
  clear h0 hx;go_enter Tryz.func167,Tryz.ntmps167;go_wp2;go_ret
  exact⟨by kernel_rfl,rfl⟩
theorem xF (x:Nat) (h0:32<=x) (hx:x < 64) (w:World):Calls Tryz.prog 167 #[.int .u64 x] w fun e w'=>e=.returned (.int .i64 (Lib.bitLen x))/\w'=w:=by
 rcases (by omega:x=32\/x=33\/x=34\/x=35\/x=36\/x=37\/x=38\/x=39\/x=40\/x=41\/x=42\/x=43\/x=44\/x=45\/x=46\/x=47\/x=48\/x=49\/x=50\/x=51\/x=52\/x=53\/x=54\/x=55\/x=56\/x=57\/x=58\/x=59\/x=60\/x=61\/x=62\/x=63)with rfl | rfl | rfl | rfl | rfl | rfl | rfl | rfl | rfl | rfl | rfl | rfl | rfl | rfl | rfl | rfl | rfl | rfl | rfl | rfl | rfl | rfl | rfl | rfl | rfl | rfl | rfl | rfl | rfl | rfl | rfl | rfl
 all_goals
  clear h0 hx;go_enter Tryz.func167,Tryz.ntmps167;go_wp2;go_ret
  exact⟨by kernel_rfl,rfl⟩
theorem xX (x:Nat) (h0:64<=x) (hx:x < 96) (w:World):Calls Tryz.prog 167 #[.int .u64 x] w fun e w'=>e=.returned (.int .i64 (Lib.bitLen x))/\w'=w:=by
 rcases (by omega:x=64\/x=65\/x=66\/x=67\/x=68\/x=69\/x=70\/x=71\/x=72\/x=73\/x=74\/x=75\/x=76\/x=77\/x=78\/x=79\/x=80\/x=81\/x=82\/x=83\/x=84\/x=85\/x=86\/x=87\/x=88\/x=89\/x=90\/x=91\/x=92\/x=93\/x=94\/x=95)with rfl | rfl | rfl | rfl | rfl | rfl | rfl | rfl | rfl | rfl | rfl | rfl | rfl | rfl | rfl | rfl | rfl | rfl | rfl | rfl | rfl | rfl | rfl | rfl | rfl | rfl | rfl | rfl | rfl | rfl | rfl | rfl
 all_goals
  clear h0 hx;go_enter Tryz.func167,Tryz.ntmps167;go_wp2;go_ret
  exact⟨by kernel_rfl,rfl⟩
theorem xh (x:Nat) (h0:96<=x) (hx:x < 128) (w:World):Calls Tryz.prog 167 #[.int .u64 x] w fun e w'=>e=.returned (.int .i64 (Lib.bitLen x))/\w'=w:=by
 rcases (by omega:x=96\/x=97\/x=98\/x=99\/x=100\/x=101\/x=102\/x=103\/x=104\/x=105\/x=106\/x=107\/x=108\/x=109\/x=110\/x=111\/x=112\/x=113\/x=114\/x=115\/x=116\/x=117\/x=118\/x=119\/x=120\/x=121\/x=122\/x=123\/x=124\/x=125\/x=126\/x=127)with rfl | rfl | rfl | rfl | rfl | rfl | rfl | rfl | rfl | rfl | rfl | rfl | rfl | rfl | rfl | rfl | rfl | rfl | rfl | rfl | rfl | rfl | rfl | rfl | rfl | rfl | rfl | rfl | rfl | rfl | rfl | rfl
 all_goals
  clear h0 hx;go_enter Tryz.func167,Tryz.ntmps167;go_wp2;go_ret
  exact⟨by kernel_rfl,rfl⟩
theorem wC (x:Nat) (h0:128<=x) (hx:x < 160) (w:World):Calls Tryz.prog 167 #[.int .u64 x] w fun e w'=>e=.returned (.int .i64 (Lib.bitLen x))/\w'=w:=by
 rcases (by omega:x=128\/x=129\/x=130\/x=131\/x=132\/x=133\/x=134\/x=135\/x=136\/x=137\/x=138\/x=139\/x=140\/x=141\/x=142\/x=143\/x=144\/x=145\/x=146\/x=147\/x=148\/x=149\/x=150\/x=151\/x=152\/x=153\/x=154\/x=155\/x=156\/x=157\/x=158\/x=159)with rfl | rfl | rfl | rfl | rfl | rfl | rfl | rfl | rfl | rfl | rfl | rfl | rfl | rfl | rfl | rfl | rfl | rfl | rfl | rfl | rfl | rfl | rfl | rfl | rfl | rfl | rfl | rfl | rfl | rfl | rfl | rfl
 all_goals
  clear h0 hx;go_enter Tryz.func167,Tryz.ntmps167;go_wp2;go_ret
  exact⟨by kernel_rfl,rfl⟩
theorem ve (x:Nat) (h0:160<=x) (hx:x < 192) (w:World):Calls Tryz.prog 167 #[.int .u64 x] w fun e w'=>e=.returned (.int .i64 (Lib.bitLen x))/\w'=w:=by
 rcases (by omega:x=160\/x=161\/x=162\/x=163\/x=164\/x=165\/x=166\/x=167\/x=168\/x=169\/x=170\/x=171\/x=172\/x=173\/x=174\/x=175\/x=176\/x=177\/x=178\/x=179\/x=180\/x=181\/x=182\/x=183\/x=184\/x=185\/x=186\/x=187\/x=188\/x=189\/x=190\/x=191)with rfl | rfl | rfl | rfl | rfl | rfl | rfl | rfl | rfl | rfl | rfl | rfl | rfl | rfl | rfl | rfl | rfl | rfl | rfl | rfl | rfl | rfl | rfl | rfl | rfl | rfl | rfl | rfl | rfl | rfl | rfl | rfl
 all_goals
  clear h0 hx;go_enter Tryz.func167,Tryz.ntmps167;go_wp2;go_ret
  exact⟨by kernel_rfl,rfl⟩
theorem ww (x:Nat) (h0:192<=x) (hx:x < 224) (w:World):Calls Tryz.prog 167 #[.int .u64 x] w fun e w'=>e=.returned (.int .i64 (Lib.bitLen x))/\w'=w:=by
 rcases (by omega:x=192\/x=193\/x=194\/x=195\/x=196\/x=197\/x=198\/x=199\/x=200\/x=201\/x=202\/x=203\/x=204\/x=205\/x=206\/x=207\/x=208\/x=209\/x=210\/x=211\/x=212\/x=213\/x=214\/x=215\/x=216\/x=217\/x=218\/x=219\/x=220\/x=221\/x=222\/x=223)with rfl | rfl | rfl | rfl | rfl | rfl | rfl | rfl | rfl | rfl | rfl | rfl | rfl | rfl | rfl | rfl | rfl | rfl | rfl | rfl | rfl | rfl | rfl | rfl | rfl | rfl | rfl | rfl | rfl | rfl | rfl | rfl
 all_goals
  clear h0 hx;go_enter Tryz.func167,Tryz.ntmps167;go_wp2;go_ret
  exact⟨by kernel_rfl,rfl⟩
theorem vB (x:Nat) (h0:224<=x) (hx:x < 256) (w:World):Calls Tryz.prog 167 #[.int .u64 x] w fun e w'=>e=.returned (.int .i64 (Lib.bitLen x))/\w'=w:=by
 rcases (by omega:x=224\/x=225\/x=226\/x=227\/x=228\/x=229\/x=230\/x=231\/x=232\/x=233\/x=234\/x=235\/x=236\/x=237\/x=238\/x=239\/x=240\/x=241\/x=242\/x=243\/x=244\/x=245\/x=246\/x=247\/x=248\/x=249\/x=250\/x=251\/x=252\/x=253\/x=254\/x=255)with rfl | rfl | rfl | rfl | rfl | rfl | rfl | rfl | rfl | rfl | rfl | rfl | rfl | rfl | rfl | rfl | rfl | rfl | rfl | rfl | rfl | rfl | rfl | rfl | rfl | rfl | rfl | rfl | rfl | rfl | rfl | rfl
 all_goals
  clear h0 hx;go_enter Tryz.func167,Tryz.ntmps167;go_wp2;go_ret
  exact⟨by kernel_rfl,rfl⟩
theorem tf (x:Nat) (hx:x<=255) (w:World):Calls Tryz.prog 167 #[.int .u64 x] w fun e w'=>e=.returned (.int .i64 (Lib.bitLen x))/\w'=w:=by
 rcases (by omega:(0<=x/\x < 32)\/(32<=x/\x < 64)\/(64<=x/\x < 96)\/(96<=x/\x < 128)\/(128<=x/\x < 160)\/(160<=x/\x < 192)\/(192<=x/\x < 224)\/(224<=x/\x < 256))with h | h | h | h | h | h | h | h
 ·exact yh x h.1 h.2 w
 ·exact xF x h.1 h.2 w
 ·exact xX x h.1 h.2 w
 ·exact xh x h.1 h.2 w
 ·exact wC x h.1 h.2 w
 ·exact ve x h.1 h.2 w
 ·exact ww x h.1 h.2 w
 ·exact vB x h.1 h.2 w
theorem qD (x:Nat) (hx:x<=255) (w:World):Calls Tryz.prog 124 #[.int .u64 x] w fun e w'=>e=.returned (.int .i64 (Lib.bitLen x))/\w'=w:=by
 have HL:=zh (fun V=>tf x hx V);have x0:(0:Int)<=(x:Int):=by omega
 have x1:(x:Int)<=255:=by omega
 go_enter Tryz.func124,Tryz.ntmps124;go_wp2_with (go_at_call 167;refine(HL.out _).mono ?_;rintro e w1 ⟨rfl,rfl⟩);go_ret
 exact⟨rfl,rfl⟩
theorem qP:∀n:Fin 256,0 < n.val->2 ^ Lib.bitLen n.val<=2*n.val/\Lib.bitLen n.val<=8:=by decide +kernel
def ze (X:Nat):Nat:=X ^^^ (X*8192 % 18446744073709551616)
def zg (A:Nat):Nat:=A ^^^ (A / 128)
def zf (B:Nat):Nat:=B ^^^ (B*131072 % 18446744073709551616)
theorem xc {X:Nat} (h:X < 18446744073709551616):ze X < 18446744073709551616:=Nat.xor_lt_two_pow (n:=64) h (by omega)
theorem wZ {X:Nat} (h:X < 18446744073709551616):zg X < 18446744073709551616:=Nat.xor_lt_two_pow (n:=64) h (by omega)
theorem xd {X:Nat} (h:X < 18446744073709551616):zf X < 18446744073709551616:=Nat.xor_lt_two_pow (n:=64) h (by omega)
theorem vH (rb X:Nat) (hX:X < 18446744073709551616) (w:World) (h:ae w rb 290 #[.int .u64 X]) :
  Calls Tryz.prog 202 #[.pointer (some ⟨rb,0,none⟩)] w fun e w'=>∃v:Nat,v < 18446744073709551616/\e=.returned (.int .u64 v)/\ae w' rb 290 #[.int .u64 v]/\aa (fun k=>k=rb) w w':=by
 have HB:=zh h;have c0:=h.cell 0;have f0:=h.frozen 0;simp at c0;obtain⟨A,hA⟩:=af (ze X)
 obtain⟨Bv,hB⟩:∃B,B=zg A:=⟨_,rfl⟩
 obtain⟨C,hC⟩:=af (zf Bv)
 have lA:A < 18446744073709551616:=by rw[hA];exact xc hX
 have lB:Bv < 18446744073709551616:=by rw[hB];exact wZ lA
 have lC:C < 18446744073709551616:=by rw[hC];exact xd lB
 have e1:bits .xor .u64 (X:Int) (IntKind.u64.wrap ((X:Int)*8192))=(A:Int):=by
  rw[IntKind.wrap_u64,show((X:Int)*8192 % 18446744073709551616)=((X*8192 % 18446744073709551616:Nat):Int) by omega,bits_xor_u64_nat _ _ hX (by omega),hA]
  rfl
 have e2:bits .xor .u64 (A:Int) ((A:Int) / 128)=(Bv:Int):=by
  rw[show((A:Int) / 128)=((A / 128:Nat):Int) by omega,bits_xor_u64_nat _ _ lA (by omega),hB]
  rfl
 have e3:bits .xor .u64 (Bv:Int) (IntKind.u64.wrap ((Bv:Int)*131072))=(C:Int):=by
  rw[IntKind.wrap_u64,show((Bv:Int)*131072 % 18446744073709551616)=((Bv*131072 % 18446744073709551616:Nat):Int) by omega,bits_xor_u64_nat _ _ lB (by omega),hC]
  rfl
 have HLC:=zh lC;have HST:=zh (show ∀(V:World) (X v:Int) (q:Nat),ae V rb 290 #[.int .u64 X]->aa (fun k=>k=rb) w V->ae ((V.drewN q).setCell ⟨rb,0,none⟩ (.int .u64 v)) rb 290 #[.int .u64 v]/\aa (fun k=>k=rb) w ((V.drewN q).setCell ⟨rb,0,none⟩ (.int .u64 v))from fun V X v q hV hK=>⟨by
  have:=(show ae (V.drewN q) rb 290 #[.int .u64 X]from hV).set_ 0 (.int .u64 v);simpa using this,(hK.drewN q).setCell (p:=⟨rb,0,none⟩) rfl _⟩)
 clear hA hB hC lA lB lC hX h;go_enter Tryz.func202,Tryz.ntmps202;go_wp2;go_region
 all_goals go_wp2
 refine ag (fun V=>ae V rb 290 #[.int .u64 A]/\aa (fun k=>k=rb) w V) (HST.out _ _ _ 1 HB.out aa.refl) ?_;rintro w1 ⟨b,k⟩;have B1:=zh b;have K1:=zh k;clear c0 f0;have c0:=b.cell 0;have f0:=b.frozen 0;simp at c0;clear b k;go_region
 all_goals go_wp2
 refine ag (fun V=>ae V rb 290 #[.int .u64 Bv]/\aa (fun k=>k=rb) w V) (HST.out _ _ _ 1 B1.out K1.out) ?_;rintro w2 ⟨b,k⟩;have B2:=zh b;have K2:=zh k;clear c0 f0;have c0:=b.cell 0;have f0:=b.frozen 0;simp at c0;clear b k;go_region
 all_goals go_wp2
 go_ret;obtain⟨b,k⟩:=HST.out _ _ C 1 B2.out K2.out
 exact⟨C,HLC.out,rfl,b,k⟩
theorem ui (k:Nat) (hk:k<=8):IntKind.u64.wrap ((2:Int) ^ k)=((2 ^ k:Nat):Int):=by
 have h:(2:Nat) ^ k<=2 ^ 8:=Nat.pow_le_pow_right (by decide) hk;have e:((2:Int) ^ k)=((2 ^ k:Nat):Int):=by push_cast;rfl
 rw[IntKind.wrap_u64,e];generalize (2:Nat) ^ k=p at h;omega
theorem vr (n:Nat) (h0:0 < n) (hn:n<=255) (w:World):Calls Tryz.prog 201 #[.int .i64 n] w fun e w'=>e=.returned (.int .u64 ((2 ^ Lib.bitLen n:Nat):Int))/\w'=w:=by
 have HL:=zh (fun V=>qD n hn V);have hb:=(qP ⟨n,by omega⟩ h0).2;have hp:=ui (Lib.bitLen n) hb;have v1:IntKind.u64.wrap (n:Int)=(n:Int):=by rw[IntKind.wrap_u64];omega
 obtain⟨k,hk⟩:=af (Lib.bitLen n)
 rw[<-hk]at hp hb ⊢;rw[<-hk]at HL;obtain⟨M,hM⟩:=af (2 ^ k)
 rw[<-hM]at hp ⊢;clear hk hM hn h0;go_enter Tryz.func201,Tryz.ntmps201;go_wp2_with (go_at_call 124;refine(HL.out _).mono ?_;rintro e w1 ⟨rfl,rfl⟩);go_ret
 exact⟨rfl,rfl⟩
theorem un (B c n a b:Nat) (d:Array Int) (hd:d.size=n) (hn:n<=255) (hab:a+12 < b) (hb:b<=n) (w:World) (h:aA w B n d) :
  Calls Tryz.prog 159 #[.slice (some ⟨B,0,none⟩) n c,.int .i64 a,.int .i64 b] w fun e w'=>e=.returned (.tuple #[])/\∃d',SO w w' B n a b d d':=by
 obtain⟨L,hL⟩:=af (b-a)
 obtain⟨q,hq⟩:=af (L / 4)
 obtain⟨m2,hm2⟩:∃m,m=a+q*2:=⟨_,rfl⟩
 obtain⟨i0,hi0⟩:∃m,m=m2-1:=⟨_,rfl⟩
 obtain⟨e2,he2⟩:∃m,m=m2+1:=⟨_,rfl⟩
 have hpl:=qP ⟨L,by omega⟩ (by show 0 < L;omega);obtain⟨M,hM⟩:=af (2 ^ Lib.bitLen L)
 have hM1:1<=M:=by rw[hM];exact Nat.one_le_two_pow
 have hM2:M<=2*L:=by rw[hM];exact hpl.1
 obtain⟨M1,hM3⟩:=af (M-1)
 have v1:IntKind.i64.wrap ((b:Int)-(a:Int))=(L:Int):=by simp[IntKind.wrap_i64];omega
 have v2:Int.tdiv (L:Int) 4=(q:Int):=by rw[hq];simp[Int.tdiv_eq_ediv]
 have v3:IntKind.i64.wrap (q:Int)=(q:Int):=by simp[IntKind.wrap_i64];omega
 have v4:IntKind.i64.wrap ((q:Int)*2)=(q:Int)*2:=by simp[IntKind.wrap_i64];omega
 have v5:IntKind.i64.wrap ((a:Int)+(q:Int)*2)=(m2:Int):=by simp[IntKind.wrap_i64];omega
 have v6:IntKind.i64.wrap ((m2:Int)-1)=(i0:Int):=by simp[IntKind.wrap_i64];omega
 have v7:IntKind.i64.wrap ((m2:Int)+1)=(e2:Int):=by simp[IntKind.wrap_i64];omega
 have v8:IntKind.u64.wrap (L:Int)=(L:Int):=by rw[IntKind.wrap_u64];omega
 have v9:IntKind.u64.wrap ((M:Int)-1)=(M1:Int):=by rw[IntKind.wrap_u64];omega
 have l8:(8:Int)<=(L:Int):=by omega
 obtain⟨rb,hrb⟩:=af w.heap.size
 have HB0:=zh (show B < w.heap.size by obtain⟨cs,hB,_⟩:=h;exact hB.lt);have HNP:=zh (fun V=>show Calls Tryz.prog 201 #[.int .i64 L] V fun e w'=>e=.returned (.int .u64 (M:Int))/\w'=V from by rw[hM];exact vr L (by omega) (by omega) V);have HR:=zh (show a+L=b/\i0+2=e2/\a<=i0/\e2 < b/\M1 < 2*L/\n<=255/\b<=n/\d.size=n from by omega);have HU:=zh h;have HRB:=zh hrb;clear h hn hab hb hL hq hm2 hi0 he2 hM hM1 hM2 hM3 hrb hd hpl;go_enter Tryz.func159,Tryz.ntmps159;go_upto_region 3 with (fail)
 refine ag (fun V=>ae V rb 290 #[.int .u64 L]/\SO w V B n a b d d) ?_ ?_
 ·have hbw:=(Below.refl w.heap.size w).alloc ao (.cells #[.int .u64 L] 290)
  exact⟨by rw[HRB.out];exact ae.new _ _ _,permIn_refl _ _ _,HU.out.keepF (aa.of_below (F:=fun _=>False) hbw) (fun e=>e),aa.of_below hbw⟩
 rintro w1 ⟨hX,hS⟩;rw[<-HRB.out];have BX:=zh hX;have BS:=zh hS;clear hX hS;have HLL:=zh (show L < 18446744073709551616 from by have:=HR.out;omega);go_upto_region 4 with (go_at_call 201;refine(HNP.out _).mono ?_;rintro e w2 ⟨rfl,rfl⟩)
 go_wp2;go_loopw [9] (fun vi wr=>∃(i X:Nat) (dk:Array Int),vi=.int .i64 i/\i0<=i/\i<=e2+1/\X < 18446744073709551616/\ae wr rb 290 #[.int .u64 X]/\SO w wr B n a b d dk) (fun vi _=>e2+2-(intOf vi).toNat)
 case atStart=>exact⟨i0,L,d,rfl,Nat.le_refl _,by have:=HR.out;omega,HLL.out,BX.out,BS.out⟩
 case round=>
  obtain⟨i,X,dk,rfl,hi0,hie,hX,hB,hS⟩:=hrel;have BX1:=zh hB;have BS1:=zh hS;have HN:=zh (fun V (hV:ae V rb 290 #[.int .u64 X])=>vH rb X hX V hV);have hr:=HR.out;clear hB hS hX;by_cases hlt:i<=e2;rotate_left
  ·have t1:¬(i:Int)<=(e2:Int):=by omega
   go_wp2;go_end0
   exact⟨rfl,dk,BS1.out⟩
  have t1:(i:Int)<=(e2:Int):=by omega
  obtain⟨ni,hni⟩:=af (i+1)
  have v10:IntKind.i64.wrap ((i:Int)+1)=(ni:Int):=by simp[IntKind.wrap_i64];omega
  have HI:=zh (show a<=i/\i < b/\ni=i+1/\i0<=i/\i<=e2 from by omega);clear hni hi0 hie hlt;go_upto_region 8 with (go_at_call 202;refine(HN.out _ BX1.out).mono ?_;rintro e w2 ⟨v,hv,rfl,hB2,hK2⟩;have BX2:=zh hB2;have HK2:=zh hK2;have HV:=zh hv;obtain⟨O,hO⟩:=af (v &&& M1);have hO1:O<=M1:=(by rw[hO];exact Nat.and_le_right);have eAnd:bits .and .u64 (v:Int) (M1:Int)=(O:Int):=(by rw[bits_and_u64_nat v M1 hv (by omega),hO]);have v11:IntKind.i64.wrap (O:Int)=(O:Int):=(by simp[IntKind.wrap_i64];omega);have HO:=zh hO1;clear hB2 hK2 hv hO hO1)
  have BS2:=zh (show SO w w2 B n a b d dk from ⟨BS1.out.1,BS1.out.2.1.keepF HK2.out (fun e=>by have:=HRB.out;have:=HB0.out;omega),BS1.out.2.2.trans HK2.out (fun k hk e=>by have:=HRB.out;omega)⟩);clear BS1;obtain⟨O2,hO2⟩:=af (if L<=O then O-L else O)
  obtain⟨p,hp⟩:=af (a+O2)
  have hp2:a<=p/\p < b:=by have:=HR.out;have:=HO.out;split at hO2<;>omega
  have v12:IntKind.i64.wrap ((a:Int)+(O2:Int))=(p:Int):=by simp[IntKind.wrap_i64];have:=HR.out;omega
  obtain⟨x,hx⟩:=af (dk[i]!)
  obtain⟨y,hy⟩:=af (dk[p]!)
  have c0:w2.cell? ⟨B,i,none⟩=some (.int .u64 x):=by rw[hx];exact BS2.out.2.1.cell (by have:=HI.out;have:=HR.out;omega)
  have c1:w2.cell? ⟨B,p,none⟩=some (.int .u64 y):=by rw[hy];exact BS2.out.2.1.cell (by have:=HR.out;omega)
  have f0:=BS2.out.2.1.fr i;have f1:=BS2.out.2.1.fr p;have l0:(i:Int) < (n:Int):=by have:=HI.out;have:=HR.out;omega
  have l1:(p:Int) < (n:Int):=by have:=HR.out;omega
  have HSW:=zh (show ∀q,SO w (((w2.drewN q).setCell ⟨B,i,none⟩ (.int .u64 y)).setCell ⟨B,p,none⟩ (.int .u64 x)) B n a b d (swp dk i p)from fun q=>by
   have h1:=HI.out;have h2:=HR.out;rw[hx,hy];exact(BS2.out.drew q).swap h2.2.2.2.2.2.2.2 h1.1 h1.2.1 hp2.1 hp2.2 h2.2.2.2.2.2.2.1)
  have HXW:=zh (show ∀q,ae (((w2.drewN q).setCell ⟨B,i,none⟩ (.int .u64 y)).setCell ⟨B,p,none⟩ (.int .u64 x)) rb 290 #[.int .u64 v]from fun q=>by
   have hne:rb ≠ B:=by have:=HRB.out;have:=HB0.out;omega
   exact((((aa.refl (F:=fun k=>k=B) (w:=w2)).drewN q).setCell (p:=⟨B,i,none⟩) rfl _).setCell (p:=⟨B,p,none⟩) rfl _).blk BX2.out hne)
  obtain⟨v',hy'⟩:=cell?_setCell_some (w:=w2) (p:=⟨B,i,none⟩) (x:=.int .u64 y) (q:=⟨B,p,none⟩) c1;clear hx hy hp;by_cases hOL:L<=O
  focus
   have t2:(L:Int)<=(O:Int):=by omega
   have v13:IntKind.i64.wrap ((O:Int)-(L:Int))=(O2:Int):=by rw[if_pos hOL]at hO2;simp[IntKind.wrap_i64];have:=HR.out;have:=HO.out;omega
   clear hO2
  rotate_left
  focus
   have t2:¬(L:Int)<=(O:Int):=by omega
   have e3:O2=O:=by rw[if_neg hOL]at hO2;exact hO2
   clear hO2;subst e3
  all_goals
   go_wp2;go_region
   all_goals go_wp2
   go_roundw
   case rel=>exact⟨ni,v,swp dk i p,rfl,by have:=HI.out;omega,by have:=HI.out;omega,HV.out,HXW.out _,HSW.out _⟩
   case measure=>have:=HI.out;simp[intOf]<;>omega
def ST (w:World) (B n a b:Nat) (d:Array Int) (a' b':Nat) (dk:Array Int) (V:World):Prop:=PQ a b d a' b' dk/\aA V B n dk/\aa (fun k=>k=B) w V
section
variable {w V V2:World} {B n a b a' b' mid:Nat} {d dk d2 d3:Array Int}
theorem ST.step (h:ST w B n a b d a' b' dk V) (h2:SO V V2 B n a' b' dk d2):ST w B n a b d a' b' d2 V2:=⟨h.1.perm h2.1,h2.2.1,h.2.2.trans h2.2.2 (fun _ _ e=>e)⟩
theorem ST.below (h:ST w B n a b d a' b' dk V) (hb:RowKit.Below V.heap.size V V2):ST w B n a b d a' b' dk V2:=⟨h.1,h.2.1.keepF (aa.of_below (F:=fun _=>False) hb) (fun e=>e),h.2.2.trans (aa.of_below (F:=fun _=>False) hb) (fun _ _ e=>e.elim)⟩
theorem ST.drew (h:ST w B n a b d a' b' dk V) (q:Nat):ST w B n a b d a' b' dk (V.drewN q):=⟨h.1,h.2.1.drew q,h.2.2.drewN q⟩
theorem ST.done (h:ST w B n a b d a' b' dk V) (h2:SO V V2 B n a' b' dk d2) (hs:SortedIn ltInt a' b' d2):∃d',SortedIn ltInt a b d'/\SO w V2 B n a b d d':=by
 obtain⟨h3,h4⟩:=h.1.go d2 h2.1 hs
 exact⟨d2,h4,h3,h2.2.1,h.2.2.trans h2.2.2 (fun _ _ e=>e)⟩
theorem ST.left (h:ST w B n a b d a' b' dk V) (hp:kM a' b' dk mid d2) (hk:aa (fun k=>k=B) V V2) (V3:World) (h3:SO V2 V3 B n a' mid d2 d3) (hs:SortedIn ltInt a' mid d3):ST w B n a b d (mid+1) b' d3 V3:=
 ⟨h.1.left hp h3.1 hs,h3.2.1,(h.2.2.trans hk (fun _ _ e=>e)).trans h3.2.2 (fun _ _ e=>e)⟩
theorem ST.right (h:ST w B n a b d a' b' dk V) (hp:kM a' b' dk mid d2) (hk:aa (fun k=>k=B) V V2) (V3:World) (h3:SO V2 V3 B n (mid+1) b' d2 d3) (hs:SortedIn ltInt (mid+1) b' d3):ST w B n a b d a' mid d3 V3:=
 ⟨h.1.right hp h3.1 hs,h3.2.1,(h.2.2.trans hk (fun _ _ e=>e)).trans h3.2.2 (fun _ _ e=>e)⟩
end
theorem sB {a b mid:Nat} {d d1:Array Int} (hn:d1.toList.Nodup) (hb:b<=d1.size) (hp:kM a b d mid d1):eE (mid+1) b d1:=Or.inr fun i h1 h2=>by
 have hne:=nT hn (i:=mid) (j:=i) (by have:=hp.mb;omega) (by omega) (by omega);have:=hp.hi i (by omega) h2;rw[Nat.add_sub_cancel];omega
theorem wX (B c n:Nat) (hn:n<=250):∀(N a b:Nat) (m:Int) (d:Array Int) (w:World),b-a < N->d.size=n->a<=b->b<=n->d.toList.Nodup->eE a b d->aA w B n d->
  Calls Tryz.prog 123 #[.slice (some ⟨B,0,none⟩) n c,.int .i64 a,.int .i64 b,.int .i64 m] w fun e w'=>e=.returned (.tuple #[])/\∃d',SortedIn ltInt a b d'/\SO w w' B n a b d d':=by
 intro N
 induction N with
 | zero=>intro _ _ _ _ _ h;exact absurd h (Nat.not_lt_zero _)
 | succ N ih=>
  intro a b m d w hN hd hab hb hnd hlow hU;have HST0:=zh (show ST w B n a b d a b d w from ⟨PQ.start hab (by omega) hnd hlow,hU,aa.refl⟩);have HR:=zh (show n<=250/\b<=n/\b-a<=N from by omega);have HSZ:=zh (show ∀(a' b':Nat) (dk:Array Int) (V:World),ST w B n a b d a' b' dk V->dk.size=n/\a'<=b'/\b'<=n from fun _ _ _ _ h=>⟨h.1.sz.trans hd,h.1.ab,by have:=h.1.bs;rw[h.1.sz]at this;omega⟩);have HIH:=zh ih;clear ih hN hd hab hb hnd hlow hU;go_enter Tryz.func123,Tryz.ntmps123;go_wp2;go_loopg [1,2,3,8,9] (b-a) (fun k s1 s2 s3 s8 s9 wr=>∃(a' b':Nat) (lim:Int) (wb wp:Bool) (dk:Array Int),s1=.int .i64 a'/\s2=.int .i64 b'/\s3=.int .i64 lim/\s8=.bool wb/\s9=.bool wp/\b'-a'<=k/\k<=b-a/\ST w B n a b d a' b' dk wr)
  case atStart=>exact⟨a,b,m,true,true,d,rfl,rfl,rfl,rfl,rfl,Nat.le_refl _,Nat.le_refl _,HST0.out⟩
  case round=>
   obtain⟨a',b',lim,wb,wp,dk,rfl,rfl,rfl,rfl,rfl,hk,hkN,hS⟩:=hrel;have HS:=zh hS;obtain⟨z1,z2,z3⟩:=HSZ.out _ _ _ _ hS;have hr:=HR.out;clear hS;obtain⟨L,hL⟩:=af (b'-a')
   have v1:IntKind.i64.wrap ((b':Int)-(a':Int))=(L:Int):=by simp[IntKind.wrap_i64];omega
   by_cases h12:L<=12
   ·have h12z:(L:Int)<=12:=by omega
    have HC:=zh (tF B c n a' b' dk z1 (by omega) z2 z3 wr HS.out.2.1);clear hL hk hkN;go_wp2_with (go_at_call 157;refine(HC.out).mono ?_;rintro e w1 ⟨rfl,d2,hs,ho⟩;have H1:=zh hs;have H2:=zh ho;clear hs ho)
    (try simp only[Exit.inBlock,Exit.then])
    refine bodyPost_ret (v:=.tuple #[]) (by simp[results,Tryz.results123,go_sem]) rfl ?_
    exact⟨rfl,HS.out.done H2.out H1.out⟩
   have h12z:¬(L:Int)<=12:=by omega
   have HL:=zh (show L=b'-a'/\12 < L from ⟨hL,by omega⟩);have HG:=zh (And.intro hk hkN);by_cases hl0:lim=0
   ·have HC:=zh (vO B c n a' b' dk z1 (by omega) (by omega) z3 wr HS.out.2.1);subst hl0;clear hL hk hkN;go_wp2_with (go_at_call 158;refine(HC.out).mono ?_;rintro e w1 ⟨rfl,d2,hs,ho⟩;have H1:=zh hs;have H2:=zh ho;clear hs ho)
    (try simp only[Exit.inBlock,Exit.then])
    refine bodyPost_ret (v:=.tuple #[]) (by simp[results,Tryz.results123,go_sem]) rfl ?_
    exact⟨rfl,HS.out.done H2.out H1.out⟩
   have HZ:=zh (And.intro z1 (And.intro z2 z3));clear hL hk hkN z1 z2 z3;go_upto_if 35 with fail
   go_cut [3]from 19 (fun s3 wc=>∃(l2:Int) (d1:Array Int),s3=.int .i64 l2/\ST w B n a b d a' b' d1 wc)
   case first=>
    have HC:=zh (un B c n a' b' dk HZ.out.1 (by omega) (by have:=HL.out;omega) HZ.out.2.2 wr HS.out.2.1)
    cases wb
    ·go_wp2_with (go_at_call 159;refine(HC.out).mono ?_;rintro e w1 ⟨rfl,d2,ho⟩;have H2:=zh ho;clear ho);go_meet
     case rel=>exact⟨_,d2,rfl,HS.out.step H2.out⟩
    ·go_wp2_with fail;go_meet
     case rel=>exact⟨lim,dk,rfl,HS.out⟩
   case rest=>
    obtain⟨l2,d1,rfl,hS1⟩:=hcut;have HS1:=zh hS1;have HZ1:=zh (HSZ.out _ _ _ _ hS1);have HC:=zh (tP B c n a' b' d1 (by omega) (by have:=HL.out;omega) HZ.out.2.2 wc hS1.2.1);clear hS1 HS hl0;go_upto_if 50 with (go_at_call 160;refine(HC.out).mono ?_;rintro e w2 ⟨p,t,rfl,hp,hb⟩;have HP:=zh hp;have HS2:=zh (HS1.out.below hb);clear hp hb)
    go_cut [11,12]from 19 (fun s11 s12 wc=>∃(p:Nat) (t:Int) (d2:Array Int),s11=.int .i64 p/\s12=.int .i64 t/\(a'<=p/\p < b')/\ST w B n a b d a' b' d2 wc)
    case first=>
     by_cases ht:t=2
     ·subst ht;have HC:=zh (xz B c n a' b' d1 HZ1.out.1 (by omega) (by have:=HL.out;omega) HZ.out.2.2 w2 HS2.out.2.1);obtain⟨p2,hp2⟩:=af ((b'-1)-(p-a'))
      obtain⟨b1,hb1⟩:=af (b'-1)
      obtain⟨pa,hpa⟩:=af (p-a')
      have hpp:=HP.out;have hzz:=HZ.out;have v2:IntKind.i64.wrap ((b':Int)-1)=(b1:Int):=by simp[IntKind.wrap_i64];omega
      have v3:IntKind.i64.wrap ((p:Int)-(a':Int))=(pa:Int):=by simp[IntKind.wrap_i64];omega
      have v4:IntKind.i64.wrap ((b1:Int)-(pa:Int))=(p2:Int):=by simp[IntKind.wrap_i64];omega
      have HP2:=zh (show a'<=p2/\p2 < b' from by omega);clear hp2 hb1 hpa hpp hzz;go_wp2_with (go_at_call 161;refine(HC.out).mono ?_;rintro e w1 ⟨rfl,d2,ho⟩;have H2:=zh ho;clear ho);go_meet
      case rel=>exact⟨p2,1,d2,rfl,rfl,HP2.out,HS2.out.step H2.out⟩
     ·go_wp2_with fail;go_meet
      case rel=>exact⟨p,t,d1,rfl,rfl,HP.out,HS2.out⟩
    case rest=>
     clear HP;obtain⟨p,t,d2,rfl,rfl,hp,hS2⟩:=hcut;have HP:=zh hp;have HS2:=zh hS2;have HZ2:=zh (HSZ.out _ _ _ _ hS2);clear hp hS2 HS1 HC;go_upto_region 15 with fail
     go_cut [68]from 19 (fun s68 wx=>(∃q:Bool,s68=.bool q)/\wx=wc)
     case first=>
      by_cases ht:t=1
      ·subst ht
       cases wb<;>cases wp<;>(go_wp2_with fail;go_meet;exact⟨⟨_,rfl⟩,rfl⟩)
      ·cases wb<;>cases wp<;>(go_wp2_with fail;go_meet;exact⟨⟨_,rfl⟩,rfl⟩)
     case rest=>
      obtain⟨⟨q,rfl⟩,rfl⟩:=hcut;go_upto_if 68 with fail;go_cut []from 19 (fun wx=>∃d3,ST w B n a b d a' b' d3 wx)
      case first=>
       have HC:=zh (wL B c n a' b' d2 HZ2.out.1 (by omega) (by have:=HL.out;omega) HZ.out.2.2 HS2.out.1.low wc HS2.out.2.1)
       cases q
       ·go_wp2_with fail;go_meet
        case rel=>exact⟨d2,HS2.out⟩
       ·go_wp2_with (go_at_call 162;refine(HC.out).mono ?_;rintro e w4 ⟨tt,d3,rfl,ho,hs⟩;have H2:=zh ho;have H3:=zh hs;clear ho hs)
        all_goals first
         | (have htt:tt=false:=(by assumption);go_meet;exact⟨d3,HS2.out.step H2.out⟩)
         | (have htt:tt=true:=(by assumption);(try simp only[Exit.inBlock,Exit.then]);refine bodyPost_ret (v:=.tuple #[]) (by simp[results,Tryz.results123,go_sem]) rfl ?_;exact⟨rfl,HS2.out.done H2.out (H3.out htt)⟩)
      case rest=>
       obtain⟨d3,hS3⟩:=hcut;have HS3:=zh hS3;have HZ3:=zh (HSZ.out _ _ _ _ hS3);clear hS3 HS2;obtain⟨y,hy⟩:=af (d3[p]!)
       have hpp:=HP.out;have hzz:=HZ3.out;have c1:wc.cell? ⟨B,p,none⟩=some (.int .u64 y):=by rw[hy];exact HS3.out.2.1.cell (by omega)
       have f1:=HS3.out.2.1.fr p;have l1:(p:Int) < (n:Int):=by omega
       go_upto_region 17 with fail;go_cut [87]from 19 (fun s87 wx=>s87=.bool false/\ST w B n a b d a' b' d3 wx)
       case first=>
        rcases Nat.eq_zero_or_pos a' with ha0 | ha0
        focus
         subst ha0;have u1:¬(0:Int) < 0:=by omega
        rotate_left
        focus
         have u1:(0:Int) < (a':Int):=by omega
         obtain⟨a0,ha1⟩:=af (a'-1)
         have u2:IntKind.i64.wrap ((a':Int)-1)=(a0:Int):=by simp[IntKind.wrap_i64];omega
         obtain⟨x,hx⟩:=af (d3[a0]!)
         have c0:wc.cell? ⟨B,a0,none⟩=some (.int .u64 x):=by rw[hx];exact HS3.out.2.1.cell (by omega)
         have f0:=HS3.out.2.1.fr a0;have l0:(a0:Int) < (n:Int):=by omega
         have hxy:x < y:=by
          rcases HS3.out.1.low with h0 | h0
          ·omega
          ·rw[hx,hy,ha1];exact h0 p hpp.1 hpp.2
         have dxy:decide (x < y)=true:=by simpa using hxy
         clear hx hy ha1
        all_goals
         go_quiet (first | (go_at_call 163;refine Calls.quiet_of_same (al _ _ _)));go_wp2_with fail;go_meet
         case rel=>exact⟨rfl,HS3.out.drew nq⟩
       case rest=>
        obtain⟨rfl,hS4⟩:=hcut;have HS4:=zh hS4;have HC:=zh (vJ B c n a' b' p d3 hzz.1 (by omega) hpp.1 hpp.2 hzz.2.2 wc hS4.2.1);obtain⟨q8,hq8⟩:=af (L / 8)
        have v5:Int.tdiv (L:Int) 8=(q8:Int):=by rw[hq8];simp[Int.tdiv_eq_ediv]
        have v6:IntKind.i64.wrap (q8:Int)=(q8:Int):=by have:=HL.out;simp[IntKind.wrap_i64];omega
        clear hS4 HS3 c1 f1 l1 hy hpp hzz hq8;go_upto_if 113 with (go_at_call 165;refine(HC.out).mono ?_;rintro e w7 ⟨mid,ap,d4,rfl,hpo,hu,hk⟩;have HPO:=zh hpo;have HU7:=zh hu;have HK7:=zh hk;have hm1:=hpo.am;have hm2:=hpo.mb;obtain⟨l1,hl1⟩:=af (mid-a');obtain⟨l3,hl3⟩:=af (b'-mid);obtain⟨m1,hm3⟩:=af (mid+1);have hz0:=HZ.out;have u1:IntKind.i64.wrap ((mid:Int)-(a':Int))=(l1:Int):=(by simp[IntKind.wrap_i64];omega);have u2:IntKind.i64.wrap ((b':Int)-(mid:Int))=(l3:Int):=(by simp[IntKind.wrap_i64];omega);have u3:IntKind.i64.wrap ((mid:Int)+1)=(m1:Int):=(by simp[IntKind.wrap_i64];omega);have HM:=zh (show l1=mid-a'/\l3=b'-mid/\m1=mid+1/\a'<=mid/\mid < b' from ⟨hl1,hl3,hm3,hm1,hm2⟩);clear hl1 hl3 hm3 hm1 hm2 hz0 hpo hu hk)
        have HQ:=zh (HS4.out.1.perm HPO.out.perm);have hzz:=HZ.out;have HD4:=zh (show d4.size=n from HPO.out.perm.1.trans HZ3.out.1);have hmm:=HM.out;have hg:=HG.out;by_cases h4:l1 < l3
        ·have h4z:(l1:Int) < (l3:Int):=by omega
         have HI:=zh (HIH.out a' mid l2 d4 w7 (by omega) HD4.out hmm.2.2.2.1 (by omega) HQ.out.nd (HQ.out.low.imp id fun h i h1 h2=>h i h1 (by omega)) HU7.out);clear hmm hg hzz h4;go_wp2_with (go_at_call 123;refine(HI.out).mono ?_;rintro e w8 ⟨rfl,d5,hs,ho⟩;have H1:=zh hs;have H2:=zh ho;clear hs ho);go_roundg (b'-m1)
         case measure=>have:=HM.out;have:=HG.out;omega
         case rel=>exact⟨m1,b',l2,_,ap,d5,rfl,rfl,rfl,rfl,rfl,Nat.le_refl _,by have:=HM.out;have:=HG.out;omega,by rw[HM.out.2.2.1];exact HS4.out.left HPO.out HK7.out _ H2.out H1.out⟩
        ·have h4z:¬(l1:Int) < (l3:Int):=by omega
         have HI:=zh (show Calls Tryz.prog 123 #[.slice (some ⟨B,0,none⟩) n c,.int .i64 m1,.int .i64 b',.int .i64 l2] w7 fun e w'=>e=.returned (.tuple #[])/\∃d',SortedIn ltInt (mid+1) b' d'/\SO w7 w' B n (mid+1) b' d4 d' from by
          rw[hmm.2.2.1];exact HIH.out (mid+1) b' l2 d4 w7 (by omega) HD4.out (by omega) hzz.2.2 HQ.out.nd (sB HQ.out.nd HQ.out.bs HPO.out) HU7.out)
         clear hmm hg hzz h4;go_wp2_with (go_at_call 123;refine(HI.out).mono ?_;rintro e w8 ⟨rfl,d5,hs,ho⟩;have H1:=zh hs;have H2:=zh ho;clear hs ho);go_roundg (mid-a')
         case measure=>have:=HM.out;have:=HG.out;omega
         case rel=>exact⟨a',mid,l2,_,ap,d5,rfl,rfl,rfl,rfl,rfl,Nat.le_refl _,by have:=HM.out;have:=HG.out;omega,HS4.out.right HPO.out HK7.out _ H2.out H1.out⟩
theorem nY {l:List SE} (hr:bQ l) {d':Array Int} {ks:List Int} (hp:ks.Perm (eV l)) (h:d'.toList.Perm ks) (hs:d'.toList.Pairwise (·<=·)):d'.toList=eV l:=
 List.Perm.eq_of_pairwise (le:=fun a b=>a<=b) (fun a b _ _ h1 h2=>Int.le_antisymm h1 h2) hs (List.pairwise_map.2 (hr.imp fun h=>by omega)) (h.trans hp)
theorem pK {l:List SE} (hr:bQ l) {ks:List Int} (hp:ks.Perm (eV l)):ks.Nodup:=
 hp.nodup_iff.2 (List.pairwise_map.2 (hr.imp fun h=>by omega))
theorem pi (A:Option Addr) (b c n:Nat) (d:Array Int) (m:Int) (hA:0 < n->A=some ⟨b,0,none⟩) (hd:d.size=n) (hn:n<=12) (w:World) (h:0 < n->aA w b n d) :
  Calls Tryz.prog 123 #[.slice A n c,.int .i64 0,.int .i64 n,.int .i64 m] w fun e w'=>e=.returned (.tuple #[])/\(0 < n->aA w' b n (Sort.insertionSort ltInt d 0 n))/\aa (fun k=>0 < n/\k=b) w w':=by
 have HI:=zh (vv A b c n d hA hd (by omega) w h);have t1:(n:Int)<=12:=by omega
 clear h hA hd hn;go_enter Tryz.func123,Tryz.ntmps123;go_wp2;go_loopw [1,2,3] (fun v1 v2 v3 wr=>v1=.int .i64 0/\v2=.int .i64 n/\wr=w) (fun _ _ _ _=>0)
 case atStart=>exact⟨rfl,rfl,rfl⟩
 case round=>
  obtain⟨rfl,rfl,rfl⟩:=hrel;go_wp2_with (go_at_call 157;refine(HI.out).mono ?_;rintro e w1 ⟨rfl,hU,hK⟩;have HU:=zh hU;have HK:=zh hK;clear hU hK)
  exact bodyPost_ret (v:=.tuple #[]) (by simp[results,Tryz.results123,go_sem]) rfl ⟨rfl,HU.out,HK.out⟩
def wR (b n:Nat) (d:Array Int) (w:World) (e:Ending) (w':World):Prop:=e=.returned (.tuple #[])/\∃d':Array Int,(d'.size=n/\d'.toList.Perm d.toList/\d'.toList.Pairwise (·<=·))/\(0 < n->aA w' b n d')/\aa (fun k=>0 < n/\k=b) w w'
theorem uE (A:Option Addr) (b c n:Nat) (d:Array Int) (m:Int) (hA:0 < n->A=some ⟨b,0,none⟩) (hd:d.size=n) (hn:n<=250) (hnd:d.toList.Nodup) (w:World) (h:0 < n->aA w b n d) :
  Calls Tryz.prog 123 #[.slice A n c,.int .i64 0,.int .i64 n,.int .i64 m] w (wR b n d w):=by
 rcases Nat.eq_zero_or_pos n with h0 | h0
 ·refine(pi A b c n d m hA hd (by omega) w h).mono ?_;rintro e w' ⟨rfl,hU,hK⟩;have hd0:d=#[]:=Array.eq_empty_of_size_eq_zero (by omega)
  exact⟨rfl,d,⟨hd,List.Perm.refl _,by rw[hd0];exact List.Pairwise.nil⟩,fun h=>absurd h (by omega),hK⟩
 ·obtain rfl:=hA h0;refine(wX b c n hn (n+1) 0 n m d w (by omega) hd (Nat.zero_le _) ao hnd (Or.inl rfl) (h h0)).mono ?_;rintro e w' ⟨rfl,d',hs,hp,hU,hK⟩
  exact⟨rfl,d',nX hd hp hs,fun _=>hU,hK.mono (fun k e=>⟨h0,e⟩)⟩
theorem sv (A:Option Addr) (b c n:Nat) (d:Array Int) (hA:0 < n->A=some ⟨b,0,none⟩) (hd:d.size=n) (hn:n<=250) (hnd:d.toList.Nodup) (w:World) (h:0 < n->aA w b n d) :
  Calls Tryz.prog 103 #[.slice A n c] w (wR b n d w):=by
 have HI:=zh (fun m=>uE A b c n d m hA hd hn hnd w h);have HB:=zh (fun V=>qD n (by omega) V);have t0:(0:Int)<=(n:Int):=by omega
 have t1:IntKind.u64.wrap (n:Int)=(n:Int):=by rw[IntKind.wrap_u64];omega
 clear h hA hd hn hnd;go_enter Tryz.func103,Tryz.ntmps103;go_wp2_with (first
  | (go_at_call 124;refine(HB.out _).mono ?_;rintro e w1 ⟨rfl,rfl⟩)
  | (go_at_call 123;refine(HI.out _).mono ?_;rintro e w1 ⟨rfl,d',hq,hU,hK⟩;have HQ:=zh hq;have HU:=zh hU;have HK:=zh hK;clear hq hU hK))
 go_end0
 exact⟨rfl,d',HQ.out,HU.out,HK.out⟩
def wN (l:List SE) (w:World) (e:Ending) (w':World):Prop:=∃A c,e=.returned (.slice A l.length c)/\au w' w'.heap.size A l.length (fun j=>.int .u64 ((eV l).getD j 0))/\cj w.heap.size A/\Below w.heap.size w w'
theorem qk (sb:Nat) (l:List SE) (bx:Nat) (w:World) (hS:SM w sb l) (hB:ae w bx 117 #[.map (some sb)]) (hr:bQ l) (hl:l.length<=250) :
  Calls Tryz.prog 79 #[.func (.func 104) #[] #[.pointer (some ⟨bx,0,none⟩)]] w (wN l w):=by
 have HA:=zh (ml sb l bx w hS hB hr (by omega));have HC:Hid (Calls Tryz.prog 102 #[.func (.func 104) #[] #[.pointer (some ⟨bx,0,none⟩)]] w fun e w'=>∃(ks:List Int) (v:Value),e=.returned v/\ks.Perm (eV l)/\w'.ownsRow w.heap.size 76 1 v ks.length (ks.map (Value.int .u64))/\Below w.heap.size w w'):=zh (by
  clear hS hB hr hl;go_enter Tryz.func102,Tryz.ntmps102;go_wp2_with (go_at_call 122;refine(HA.out).mono ?_;rintro e w1 ⟨ks,v,rfl,h1,h2,h3⟩;have H1:=zh h1;have H2:=zh h2;have H3:=zh h3;clear h1 h2 h3);go_ret
  exact⟨ks,v,rfl,H1.out,H2.out,H3.out⟩)
 have HR:=zh hr;have HL:=zh hl;clear hS hB hr hl HA;go_enter Tryz.func79,Tryz.ntmps79;go_upto_region 2 with (go_at_call 102;refine(HC.out).mono ?_;rintro e w1 ⟨ks,v,rfl,h1,h2,h3⟩;have H1:=zh h1;have H2:=zh h2;have H3:=zh h3;clear h1 h2 h3)
 have hlen:ks.length=l.length:=by rw[H1.out.length_eq];exact List.length_map _
 obtain⟨A,c,b,rfl,hA,hU,hge,hfr⟩:∃A c b,v=.slice A ks.length c/\(0 < ks.length->A=some ⟨b,0,none⟩)/\(0 < ks.length->aA w1 b ks.length ks.toArray)/\(0 < ks.length->w.heap.size<=b)/\cj w.heap.size A:=by
  rcases H2.out.2 with ⟨rfl,h0⟩ | ⟨gb,cap,cur,rfl,hb,hh,hc1,hc2,hc3,hc4⟩
  ·exact⟨none,0,0,by rw[h0],fun h=>absurd h (by omega),fun h=>absurd h (by omega),fun h=>absurd h (by omega),gH _⟩
  ·refine⟨_,cap,gb,rfl,fun _=>rfl,fun _=>⟨cur,hh,?_,fun t ht=>?_⟩,fun _=>hb,gM hb⟩
   ·rw[hc3];omega
   ·have hks:cur.toList.take (ks.length*1)=ks.map (Value.int .u64):=hc4;have h1:(cur.toList.take (ks.length*1))[t]? = some (.int .u64 (ks.toArray[t]!)):=by
     rw[hks,List.getElem?_map,List.getElem?_eq_getElem ht];simp[ht]
    rw[List.getElem?_take,if_pos (by omega),Array.getElem?_toList]at h1
    exact h1
 have HSO:=zh (sv A b c ks.length ks.toArray hA (by simp) (by rw[hlen];exact HL.out) (by simpa using pK HR.out H1.out) w1 hU);have HLN:=zh hlen;have HAA:=zh hA;have HGE:=zh hge;have HFR:=zh hfr;clear hlen hA hU hge hfr H2;go_wp2_with (go_at_call 103;refine(HSO.out).mono ?_;rintro e w2 ⟨rfl,d',hq,hU,hK⟩;have HQ:=zh hq;have HU:=zh hU;have HK:=zh hK;clear hq hU hK);go_ret;have hln:=HLN.out;have HSK:=zh (nY HR.out H1.out (by simpa using HQ.out.2.1) HQ.out.2.2);refine⟨A,c,by rw[hln];rfl,?_,?_,aa.below H3.out HK.out (fun k ⟨h0,hk⟩=>by rw[hk];exact HGE.out h0) H3.out.size⟩
 ·rw[<-hln];intro hn0;have hU:=HU.out hn0;obtain⟨cs,hB,hcs,hcc⟩:=hU;refine⟨b,0,HAA.out hn0,ae.lt hB,fun j hj=>?_⟩;rw[Nat.zero_add,hB.cell j,hcc j hj,<-HSK.out];have hsz:d'.size=ks.length:=HQ.out.1;show _=some (Value.int .u64 (d'.toList.getD j 0));rw[getElem!_pos _ j (by omega),List.getD_eq_getElem?_getD,Array.getElem?_toList,Array.getElem?_eq_getElem (by omega),Option.getD_some]
 ·exact HFR.out
end Go.Proofs.YtiiojpnckbglcaaGreat

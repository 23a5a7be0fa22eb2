import Derived.Test.YtnadmdadcpemnaaGreatMVSq
import Derived.Test.YtnadmdadcpemnaaGreatRAq
import Derived.Test.YtnadmdadcpemnaaGreatMVMq
import Derived.Test.YtnadmdadcpemnaaGreatMYAq
import Derived.Test.YtnadmdadcpemnaaGreatRDq
import Derived.Test.YtnadmdadcpemnaaGreatMREq
import Derived.Test.YtnadmdadcpemnaaGreatMZAq
import Derived.Test.YtnadmdadcpemnaaGreatMDVAq
import Derived.BigRegion
import Derived.Test.YtnadmdadcpemnaaGreatB1q
set_option maxRecDepth 100000
set_option maxHeartbeats 6400000
namespace Go.Proofs.YtnadmdadcpemnaaGreat
set_option linter.unusedVariables false
set_option linter.unusedSimpArgs false
open Go
def bitAt (b:Nat->Nat) (i:Nat):Nat:=if i < 128 then b (i / 8) / 2 ^ (7-i % 8) % 2 else 0
theorem bitAt_lt (b:Nat->Nat) (i:Nat):bitAt b i < 2:=by
 unfold bitAt
 split
 ·exact Nat.mod_lt _ (by decide)
 ·decide
def bitsK (b:Nat->Nat) (k:Nat):Nat->Nat:=fun j=>if j < k then bitAt b j else 0
def outS (b:Nat->Nat):Nat->Nat->Nat
 | 0=>fun _=>0
 | k+1=>upd (outS b k) (k / 8) (outS b k (k / 8) ||| bitAt b (k+1)*2 ^ (7-k % 8))
theorem outS_before (b:Nat->Nat) (j:Nat):∀k,k<=8*j->outS b k j=0
 | 0,_=>rfl
 | k+1,h=>by
  show upd _ _ _ j=0;unfold upd;rw[if_neg (by omega)]
  exact outS_before b j k (by omega)
theorem outS_behind (b:Nat->Nat) (j:Nat):∀k,outS b (8*j+8+k) j=outS b (8*j+8) j
 | 0=>rfl
 | k+1=>by
  show upd (outS b (8*j+8+k)) ((8*j+8+k) / 8) _ j=_;unfold upd;rw[if_neg (by omega)]
  exact outS_behind b j k
theorem outS_step (b:Nat->Nat) (j t:Nat) (ht:t < 8):outS b (8*j+t+1) j=outS b (8*j+t) j ||| bitAt b (8*j+t+1)*2 ^ (7-t):=by
 show upd _ _ _ j=_;rw[show(8*j+t) / 8=j by omega,show(8*j+t) % 8=t by omega];unfold upd;rw[if_pos rfl]
theorem outS_byte (b:Nat->Nat) (j:Nat):outS b (8*j+8) j=0 ||| bitAt b (8*j+1)*128 ||| bitAt b (8*j+2)*64 ||| bitAt b (8*j+3)*32 ||| bitAt b (8*j+4)*16 ||| bitAt b (8*j+5)*8 ||| bitAt b (8*j+6)*4 ||| bitAt b (8*j+7)*2 ||| bitAt b (8*j+8)*1:=by
 have e0:=outS_before b j (8*j+0) (by omega);have e1:=outS_step b j 0 (by decide);have e2:=outS_step b j 1 (by decide);have e3:=outS_step b j 2 (by decide);have e4:=outS_step b j 3 (by decide);have e5:=outS_step b j 4 (by decide);have e6:=outS_step b j 5 (by decide);have e7:=outS_step b j 6 (by decide);have e8:=outS_step b j 7 (by decide);rw[e0]at e1;rw[e1]at e2;rw[e2]at e3;rw[e3]at e4;rw[e4]at e5;rw[e5]at e6;rw[e6]at e7;rw[e7]at e8
 exact e8
theorem byte_two:∀(x:Fin 256) (q:Fin 2),(0 ||| x.1 / 64 % 2*128 ||| x.1 / 32 % 2*64 ||| x.1 / 16 % 2*32 ||| x.1 / 8 % 2*16 ||| x.1 / 4 % 2*8 ||| x.1 / 2 % 2*4 ||| x.1 / 1 % 2*2 ||| q.1*1)=(x.1*2 % 256 ||| q.1):=by decide +kernel
theorem outS_all (b:Nat->Nat) (hb:B16 b) (j:Nat) (hj:j < 16):outS b 128 j=(b j*2 % 256 ||| (if j < 15 then b (j+1) / 128 else 0)):=by
 have e:=outS_behind b j (128-(8*j+8));rw[show 8*j+8+(128-(8*j+8))=128 by omega]at e;rw[e,outS_byte];have hlow:∀t,1<=t->t < 8->bitAt b (8*j+t)=b j / 2 ^ (7-t) % 2:=fun t h1 h2=>by
  unfold bitAt;rw[if_pos (by omega),show(8*j+t) / 8=j by omega,show(8*j+t) % 8=t by omega]
 have hx:=hb j hj;have hq:bitAt b (8*j+8)=if j < 15 then b (j+1) / 128 else 0:=by
  unfold bitAt;by_cases h:j < 15
  ·have:=hb (j+1) (by omega);rw[if_pos (by omega),if_pos h,show(8*j+8) / 8=j+1 by omega,show(8*j+8) % 8=0 by omega];omega
  ·rw[if_neg (by omega),if_neg h]
 have hq2:(if j < 15 then b (j+1) / 128 else 0) < 2:=by
  split
  ·have:=hb (j+1) (by omega);omega
  ·decide
 rw[hlow 1 (by decide) (by decide),hlow 2 (by decide) (by decide),hlow 3 (by decide) (by decide),hlow 4 (by decide) (by decide),hlow 5 (by decide) (by decide),hlow 6 (by decide) (by decide),hlow 7 (by decide) (by decide),hq]
 exact byte_two ⟨b j,hx⟩ ⟨_,hq2⟩
theorem dbl_set (b:Nat->Nat) (hb:B16 b) (h:bitAt b 0=1):∀j,j < 16->upd (outS b 128) 15 (outS b 128 15 ^^^ 135) j=dblB b j:=fun j hj=>by
 have h0:=hb 0 (by decide);have hd:b 0 / 128=1:=by
  have e:bitAt b 0=b 0 / 128 % 2:=rfl;rw[e]at h;omega
 unfold upd dblB;by_cases e:j=15
 ·subst e;rw[if_pos rfl,if_neg (by decide),outS_all b hb 15 (by decide),if_neg (by decide),Nat.or_zero,hd]
 ·rw[if_neg e,if_pos (by omega),outS_all b hb j hj,if_pos (by omega)]
theorem dbl_not (b:Nat->Nat) (hb:B16 b) (h:bitAt b 0=0):∀j,j < 16->outS b 128 j=dblB b j:=fun j hj=>by
 have h0:=hb 0 (by decide);have hd:b 0 / 128=0:=by
  have e:bitAt b 0=b 0 / 128 % 2:=rfl;rw[e]at h;omega
 unfold dblB;rw[outS_all b hb j hj];by_cases e:j < 15
 ·rw[if_pos e,if_pos e]
 ·rw[if_neg e,if_neg e,hd,Nat.or_zero,Nat.zero_mul,Nat.zero_mod,Nat.xor_zero]
theorem outS_lt (b:Nat->Nat):∀k,k<=128->∀j,outS b k j < 256
 | 0,_=>fun j=>by show 0 < 256;decide
 | k+1,hk=>fun j=>by
  show upd _ _ _ j < 256;unfold upd
  split
  ·refine Nat.or_lt_two_pow (n:=8) (outS_lt b k (by omega) _) ?_;have h1:=bitAt_lt b (k+1);have h2:2 ^ (7-k % 8)<=2 ^ 7:=Nat.pow_le_pow_right (by decide) (by omega);have h3:bitAt b (k+1)*2 ^ (7-k % 8)<=1*2 ^ 7:=Nat.mul_le_mul (by omega) h2;omega
  ·exact outS_lt b k (by omega) j
end Go.Proofs.YtnadmdadcpemnaaGreat
namespace Go.Proofs.YtnadmdadcpemnaaGreat
set_option linter.unusedVariables false
set_option linter.unusedSimpArgs false
open Go.RowKit
attribute [local go_sem ↓] Go.wp_at_zero Go.wp_at_succ
theorem bits_set (b:Nat->Nat) (k:Nat) (hk:k < 128):(bA 129 (bitsK b k)).setIfInBounds k (.int .u8 ((bitAt b k:Nat):Int))=bA 129 (bitsK b (k+1)):=by
 rw[bA_upd 129 _ _ _ (by omega)];refine bA_congr fun j hj=>?_;unfold upd bitsK;by_cases e:j=k
 ·rw[if_pos e,if_pos (by omega),e]
 ·rw[if_neg e];by_cases h:j < k
  ·rw[if_pos h,if_pos (by omega)]
  ·rw[if_neg h,if_neg (by omega)]
theorem bits_all (b:Nat->Nat) (k:Nat) (hk:k < 128):bitsK b 128 (k+1)=bitAt b (k+1):=by
 unfold bitsK;by_cases h:k+1 < 128
 ·rw[if_pos h]
 ·rw[if_neg h];unfold bitAt;rw[if_neg h]
theorem bits_none (b:Nat->Nat):bA 129 (bitsK b 0)=#[.int .u8 0,.int .u8 0,.int .u8 0,.int .u8 0,.int .u8 0,.int .u8 0,.int .u8 0,.int .u8 0,.int .u8 0,.int .u8 0,.int .u8 0,.int .u8 0,.int .u8 0,.int .u8 0,.int .u8 0,.int .u8 0,.int .u8 0,.int .u8 0,.int .u8 0,.int .u8 0,.int .u8 0,.int .u8 0,.int .u8 0,.int .u8 0,.int .u8 0,.int .u8 0,.int .u8 0,.int .u8 0,.int .u8 0,.int .u8 0,.int .u8 0,.int .u8 0,.int .u8 0,.int .u8 0,.int .u8 0,.int .u8 0,.int .u8 0,.int .u8 0,.int .u8 0,.int .u8 0,.int .u8 0,.int .u8 0,.int .u8 0,.int .u8 0,.int .u8 0,.int .u8 0,.int .u8 0,.int .u8 0,.int .u8 0,.int .u8 0,.int .u8 0,.int .u8 0,.int .u8 0,.int .u8 0,.int .u8 0,.int .u8 0,.int .u8 0,.int .u8 0,.int .u8 0,.int .u8 0,.int .u8 0,.int .u8 0,.int .u8 0,.int .u8 0,.int .u8 0,.int .u8 0,.int .u8 0,.int .u8 0,.int .u8 0,.int .u8 0,.int .u8 0,.int .u8 0,.int .u8 0,.int .u8 0,.int .u8 0,.int .u8 0,.int .u8 0,.int .u8 0,.int .u8 0,.int .u8 0,.int .u8 0,.int .u8 0,.int .u8 0,.int .u8 0,.int .u8 0,.int .u8 0,.int .u8 0,.int .u8 0,.int .u8 0,.int .u8 0,.int .u8 0,.int .u8 0,.int .u8 0,.int .u8 0,.int .u8 0,.int .u8 0,.int .u8 0,.int .u8 0,.int .u8 0,.int .u8 0,.int .u8 0,.int .u8 0,.int .u8 0,.int .u8 0,.int .u8 0,.int .u8 0,.int .u8 0,.int .u8 0,.int .u8 0,.int .u8 0,.int .u8 0,.int .u8 0,.int .u8 0,.int .u8 0,.int .u8 0,.int .u8 0,.int .u8 0,.int .u8 0,.int .u8 0,.int .u8 0,.int .u8 0,.int .u8 0,.int .u8 0,.int .u8 0,.int .u8 0,.int .u8 0,.int .u8 0,.int .u8 0,.int .u8 0]:=by
 rw[show bitsK b 0=fun _=>0 from by funext j;unfold bitsK;rw[if_neg (by omega)]]
 kernel_rfl
theorem outS_set (b:Nat->Nat) (k:Nat) (hk:k < 128):(b16 (outS b k)).setIfInBounds (k / 8) (.int .u8 ((outS b k (k / 8) ||| bitAt b (k+1)*2 ^ (7-k % 8):Nat):Int))=b16 (outS b (k+1)):=by
 rw[b16_set _ _ _ (by omega)]
 rfl
theorem sh_lt (y s:Nat) (hy:y < 2) (hs:s<=7):y*2 ^ s < 256:=by
 have h2:2 ^ s<=2 ^ 7:=Nat.pow_le_pow_right (by decide) hs;have h3:y*2 ^ s<=1*2 ^ 7:=Nat.mul_le_mul (by omega) h2;omega
theorem shl_int (y s:Nat) (hy:y < 2) (hs:s<=7):(y:Int)*2 ^ s % 256=((y*2 ^ s:Nat):Int):=by
 have h:=sh_lt y s hy hs;rw[show(y:Int)*2 ^ s=((y*2 ^ s:Nat):Int)from by rw[Int.natCast_mul,Int.natCast_pow];rfl];omega
theorem rdouble_ok (b:Nat->Nat) (hb:B16 b) (w:World):Calls Tryz.prog 108 #[.agg (b16 b)] w fun e w'=>e=.returned (.agg (b16 (dblB b)))/\Below w.heap.size w w':=by
 have HB8:=zh hb;have HSB:=zh (size16 b);obtain⟨E,hE⟩:∃E:Nat->Array Value,E=fun k=>bA 129 (bitsK b k):=⟨_,rfl⟩
 obtain⟨O,hO⟩:∃O:Nat->Array Value,O=fun k=>b16 (outS b k):=⟨_,rfl⟩
 obtain⟨BB,hBB⟩:∃X,X=b16 b:=⟨_,rfl⟩
 obtain⟨DB,hDB⟩:∃X,X=b16 (dblB b):=⟨_,rfl⟩
 have HE0:Hid (E 0=#[.int .u8 0,.int .u8 0,.int .u8 0,.int .u8 0,.int .u8 0,.int .u8 0,.int .u8 0,.int .u8 0,.int .u8 0,.int .u8 0,.int .u8 0,.int .u8 0,.int .u8 0,.int .u8 0,.int .u8 0,.int .u8 0,.int .u8 0,.int .u8 0,.int .u8 0,.int .u8 0,.int .u8 0,.int .u8 0,.int .u8 0,.int .u8 0,.int .u8 0,.int .u8 0,.int .u8 0,.int .u8 0,.int .u8 0,.int .u8 0,.int .u8 0,.int .u8 0,.int .u8 0,.int .u8 0,.int .u8 0,.int .u8 0,.int .u8 0,.int .u8 0,.int .u8 0,.int .u8 0,.int .u8 0,.int .u8 0,.int .u8 0,.int .u8 0,.int .u8 0,.int .u8 0,.int .u8 0,.int .u8 0,.int .u8 0,.int .u8 0,.int .u8 0,.int .u8 0,.int .u8 0,.int .u8 0,.int .u8 0,.int .u8 0,.int .u8 0,.int .u8 0,.int .u8 0,.int .u8 0,.int .u8 0,.int .u8 0,.int .u8 0,.int .u8 0,.int .u8 0,.int .u8 0,.int .u8 0,.int .u8 0,.int .u8 0,.int .u8 0,.int .u8 0,.int .u8 0,.int .u8 0,.int .u8 0,.int .u8 0,.int .u8 0,.int .u8 0,.int .u8 0,.int .u8 0,.int .u8 0,.int .u8 0,.int .u8 0,.int .u8 0,.int .u8 0,.int .u8 0,.int .u8 0,.int .u8 0,.int .u8 0,.int .u8 0,.int .u8 0,.int .u8 0,.int .u8 0,.int .u8 0,.int .u8 0,.int .u8 0,.int .u8 0,.int .u8 0,.int .u8 0,.int .u8 0,.int .u8 0,.int .u8 0,.int .u8 0,.int .u8 0,.int .u8 0,.int .u8 0,.int .u8 0,.int .u8 0,.int .u8 0,.int .u8 0,.int .u8 0,.int .u8 0,.int .u8 0,.int .u8 0,.int .u8 0,.int .u8 0,.int .u8 0,.int .u8 0,.int .u8 0,.int .u8 0,.int .u8 0,.int .u8 0,.int .u8 0,.int .u8 0,.int .u8 0,.int .u8 0,.int .u8 0,.int .u8 0,.int .u8 0,.int .u8 0]):=zh (by rw[hE];exact bits_none b);have HO0:Hid (O 0=#[.int .u8 0,.int .u8 0,.int .u8 0,.int .u8 0,.int .u8 0,.int .u8 0,.int .u8 0,.int .u8 0,.int .u8 0,.int .u8 0,.int .u8 0,.int .u8 0,.int .u8 0,.int .u8 0,.int .u8 0,.int .u8 0]):=zh (by rw[hO];exact b16z);have HES:=zh (show ∀k,k < 128->(E k).setIfInBounds k (.int .u8 ((bitAt b k:Nat):Int))=E (k+1) by rw[hE];exact bits_set b);have HOS:=zh (show ∀k,k < 128->(O k).setIfInBounds (k / 8) (.int .u8 ((outS b k (k / 8) ||| bitAt b (k+1)*2 ^ (7-k % 8):Nat):Int))=O (k+1) by rw[hO];exact outS_set b);have HEA:=zh (show ∀k j,j < 129->(E k)[j]? = some (.int .u8 ((bitsK b k j:Nat):Int)) by rw[hE];exact fun k j hj=>bA_at _ _ hj);have HOA:=zh (show ∀k j,j < 16->(O k)[j]? = some (.int .u8 ((outS b k j:Nat):Int)) by rw[hO];exact fun k j hj=>b16_at _ hj);have HBA:=zh (show ∀j,j < 16->BB[j]? = some (.int .u8 ((b j:Nat):Int)) by rw[hBB];exact fun j hj=>b16_at _ hj);have HD1:=zh (show bitAt b 0=1->(O 128).setIfInBounds 15 (.int .u8 ((outS b 128 15 ^^^ 135:Nat):Int))=DB by
  rw[hO,hDB];intro h;show(b16 (outS b 128)).setIfInBounds 15 _=_;rw[b16_set _ _ _ (by decide)]
  exact b16_congr (dbl_set b hb h))
 have HD0:=zh (show bitAt b 0=0->O 128=DB by
  rw[hO,hDB];intro h
  exact b16_congr (dbl_not b hb h))
 have HSD:Hid ((Tryz.prog.info? 23).map (·.size)=some DB.size):=zh (by rw[hDB];exact size16 _);have HOD:Hid (DB.all (·.oneCell')=true):=zh (by rw[hDB];exact b16_one _);have HZD:Hid ((#[.int .u8 0,.int .u8 0,.int .u8 0,.int .u8 0,.int .u8 0,.int .u8 0,.int .u8 0,.int .u8 0,.int .u8 0,.int .u8 0,.int .u8 0,.int .u8 0,.int .u8 0,.int .u8 0,.int .u8 0,.int .u8 0]:Array Value).size=DB.size):=zh (by rw[hDB,b16_size];rfl);rw[<-hBB,<-hDB];obtain⟨ZB,hZB⟩:∃ZB:Array Value,ZB=#[.int .u8 0,.int .u8 0,.int .u8 0,.int .u8 0,.int .u8 0,.int .u8 0,.int .u8 0,.int .u8 0,.int .u8 0,.int .u8 0,.int .u8 0,.int .u8 0,.int .u8 0,.int .u8 0,.int .u8 0,.int .u8 0]:=⟨_,rfl⟩
 have HZB:=zh hZB;rw[<-hZB]at HZD;clear hE hO hBB hDB hb hZB;go_enter Tryz.func108,Tryz.ntmps108;go_upto_region 2 with (fail)
 obtain⟨g,hg⟩:∃g,g=w.heap.size:=⟨_,rfl⟩
 refine wp_let (fun V=>Blk V g 23 BB/\Blk V (g+1) 23 ZB/\Blk V (g+1+1) 202 (E 0)/\Below w.heap.size w V) ⟨by rw[hg];exact((Blk.new _ _ _).alloc _).alloc _,by rw[hg,HZB.out];exact(blk_atA _ _ _ _ (by simp)).alloc _,by rw[hg,HE0.out];exact blk_atA _ _ _ _ (by simp),((bnA _).alloc (by simp only[World.size_alloc];omega) _).alloc (by simp only[World.size_alloc];omega) _⟩ ?_;rintro W1 ⟨b1,b2,b3,b4⟩;have B0:=zh (And.intro b1 (And.intro b2 (And.intro b3 b4)));have HGG:=zh hg;rw[<-hg];clear b1 b2 b3 b4 hg HE0;go_wp2;go_loopw [4] (fun x wr=>∃k:Nat,k<=128/\x=.int .i64 k/\Blk wr g 23 BB/\Blk wr (g+1) 23 ZB/\Blk wr (g+1+1) 202 (E k)/\Below w.heap.size w wr) (fun x _=>128-(intOf x).toNat)
 case atStart=>exact⟨0,by omega,rfl,B0.out⟩
 case round=>
  clear B0;obtain⟨k,hk,rfl,hG,hZ,hN,hbw⟩:=hrel;have HG:=zh hG;have HZ:=zh hZ;have HN:=zh hN;have HBW:=zh hbw;clear hG hZ hN hbw;have k0:(0:Int)<=(k:Int):=by omega
  by_cases hlt:k < 128
  ·have k1:(k:Int) < 128:=by omega
   have k2:(k:Int) < 129:=by omega
   obtain⟨q,hq⟩:∃q,q=k / 8:=⟨_,rfl⟩
   obtain⟨r,hr⟩:∃r,r=k % 8:=⟨_,rfl⟩
   obtain⟨s,hs⟩:∃s,s=7-r:=⟨_,rfl⟩
   have hq1:(k:Int) / 8=(q:Int):=by omega
   have hr1:(k:Int).tmod 8=(r:Int):=by rw[Int.tmod_eq_emod_of_nonneg (by omega)];omega
   have hs1:(7:Int)-(r:Int)=(s:Int):=by omega
   have q16:(q:Int) < 16:=by omega
   have q0:(0:Int)<=(q:Int):=by omega
   have s0:(0:Int)<=(s:Int):=by omega
   have wq:IntKind.i64.wrap (q:Int)=(q:Int):=by simp[IntKind.wrap_i64];omega
   have ws:IntKind.i64.wrap (s:Int)=(s:Int):=by simp[IntKind.wrap_i64];omega
   have s7:(s:Int) < 64:=by omega
   obtain⟨x,hx⟩:∃x,x=b q:=⟨_,rfl⟩
   have hx8:x < 256:=by rw[hx];exact HB8.out q (by omega)
   have cG:wr.cell? ⟨g,q,none⟩=some (.int .u8 (x:Int)):=by rw[hx];exact(HG.out.cell q).trans (HBA.out q (by omega))
   have cN:wr.cell? ⟨g+1+1,k,none⟩=some (.int .u8 ((bitsK b k k:Nat):Int)):=(HN.out.cell k).trans (HEA.out k k (by omega));have fN:=HN.out.frozen k;have hand:bits .and .u8 ((x:Int) / 2 ^ s) 1=((bitAt b k:Nat):Int):=by
    rw[show(x:Int) / 2 ^ s=((x / 2 ^ s:Nat):Int)from by rw[Int.natCast_ediv,Int.natCast_pow];rfl,u8_and_one _ (Nat.lt_of_le_of_lt (Nat.div_le_self _ _) hx8)];unfold bitAt;rw[if_pos hlt,hx,hs,hr,hq]
   have HSk:=zh (HES.out k hlt);generalize bitAt b k=y at hand HSk;generalize bitsK b k k=y0 at cN;have HH:=zh (And.intro hq (And.intro hr (And.intro hs hx)));clear hq hr hs hx;go_wp2;go_roundw
   case rel=>
    refine⟨k+1,by omega,by go_num,HG.out.far (p:=⟨g+1+1,k,none⟩) (by show ¬g=g+1+1;omega) _,HZ.out.far (p:=⟨g+1+1,k,none⟩) (by show ¬g+1=g+1+1;omega) _,?_,HBW.out.setCell (p:=⟨g+1+1,k,none⟩) (by have:=HGG.out;show w.heap.size<=g+1+1;omega) _⟩;rw[<-HSk.out]
    exact HN.out.set_ k _
   case measure=>simp[intOf];omega
  ·have hk128:k=128:=by omega
   have k1:¬(k:Int) < 128:=by omega
   rw[show E k=E 128 by rw[hk128]]at HN;have HK:=zh hk128;clear hk hlt hk128;go_upto_region 7 with (fail)
   obtain⟨o,ho⟩:∃o,o=wr.heap.size:=⟨_,rfl⟩
   have hgo:g+1+1 < o:=by rw[ho];exact HN.out.lt
   refine wp_let (fun V=>Blk V o 23 (O 0)/\Blk V (g+1) 23 ZB/\Blk V (g+1+1) 202 (E 128)/\Below w.heap.size w V) ⟨by rw[ho,HO0.out];exact Blk.new _ _ _,HZ.out.alloc _,HN.out.alloc _,HBW.out.alloc HBW.out.size _⟩ ?_;rintro W2 ⟨b1,b2,b3,b4⟩;have B0:=zh (And.intro b1 (And.intro b2 (And.intro b3 b4)));rw[<-ho];have HGO:=zh hgo;clear b1 b2 b3 b4 ho hgo HO0 HG HZ HN HBW k0 k1;go_wp2;go_loopw [6] (fun x wr=>∃k:Nat,k<=128/\x=.int .i64 k/\Blk wr o 23 (O k)/\Blk wr (g+1) 23 ZB/\Blk wr (g+1+1) 202 (E 128)/\Below w.heap.size w wr) (fun x _=>128-(intOf x).toNat)
   case atStart=>exact⟨0,by omega,rfl,B0.out⟩
   case round=>
    clear B0;obtain⟨k,hk,rfl,hO,hZ,hN,hbw⟩:=hrel;have HO:=zh hO;have HZ:=zh hZ;have HN:=zh hN;have HBW:=zh hbw;clear hO hZ hN hbw;have k0:(0:Int)<=(k:Int):=by omega
    by_cases hlt:k < 128
    ·have k1:(k:Int) < 128:=by omega
     obtain⟨m,hm⟩:∃m,m=k+1:=⟨_,rfl⟩
     have hm1:(k:Int)+1=(m:Int):=by omega
     have m0:(0:Int)<=(m:Int):=by omega
     have m2:(m:Int) < 129:=by omega
     obtain⟨q,hq⟩:∃q,q=k / 8:=⟨_,rfl⟩
     obtain⟨r,hr⟩:∃r,r=k % 8:=⟨_,rfl⟩
     obtain⟨s,hs⟩:∃s,s=7-r:=⟨_,rfl⟩
     have hq1:(k:Int) / 8=(q:Int):=by omega
     have hr1:(k:Int).tmod 8=(r:Int):=by rw[Int.tmod_eq_emod_of_nonneg (by omega)];omega
     have hs1:(7:Int)-(r:Int)=(s:Int):=by omega
     have q16:(q:Int) < 16:=by omega
     have q0:(0:Int)<=(q:Int):=by omega
     have s0:(0:Int)<=(s:Int):=by omega
     have wq:IntKind.i64.wrap (q:Int)=(q:Int):=by simp[IntKind.wrap_i64];omega
     have ws:IntKind.i64.wrap (s:Int)=(s:Int):=by simp[IntKind.wrap_i64];omega
     have wm:IntKind.i64.wrap (m:Int)=(m:Int):=by simp[IntKind.wrap_i64];omega
     have s7:(s:Int) < 64:=by omega
     obtain⟨x,hx⟩:∃x,x=outS b k q:=⟨_,rfl⟩
     have hx8:x < 256:=by rw[hx];exact outS_lt b k (by omega) _
     obtain⟨y,hy⟩:∃y,y=bitAt b (k+1):=⟨_,rfl⟩
     have hy2:y < 2:=by rw[hy];exact bitAt_lt b _
     have cO:wr.cell? ⟨o,q,none⟩=some (.int .u8 (x:Int)):=by rw[hx];exact(HO.out.cell q).trans (HOA.out k q (by omega))
     have fO:=HO.out.frozen q;have cN:wr.cell? ⟨g+1+1,m,none⟩=some (.int .u8 (y:Int)):=by rw[hy,hm,<-bits_all b k hlt];exact(HN.out.cell (k+1)).trans (HEA.out 128 (k+1) (by omega))
     have hshl:=shl_int y s hy2 (by omega);have hor:bits .or .u8 (x:Int) ((y*2 ^ s:Nat):Int)=((x ||| y*2 ^ s:Nat):Int):=u8_or_nat x _ hx8 (sh_lt y s hy2 (by omega));have HSk:=zh (show(O k).setIfInBounds q (.int .u8 ((x ||| y*2 ^ s:Nat):Int))=O m from by rw[hx,hy,hs,hr,hq,hm];exact HOS.out k hlt);generalize y*2 ^ s=u at hshl hor HSk;generalize x ||| u=v at hor HSk
     have HM:=zh hm;clear hq hr hs hx hy hm hx8 hy2;go_upto_region 10 with (fail)
     go_region;go_wp2;go_roundw
     case rel=>
      refine⟨k+1,by omega,by go_num,?_,(HZ.out.far (p:=⟨o,q,none⟩) (by have:=HGO.out;show ¬g+1=o;omega) _).drew,(HN.out.far (p:=⟨o,q,none⟩) (by have:=HGO.out;show ¬g+1+1=o;omega) _).drew,(HBW.out.setCell (p:=⟨o,q,none⟩) (by have:=HGO.out;have:=HGG.out;show w.heap.size<=o;omega) _).drew⟩;rw[<-HM.out,<-HSk.out]
      exact(HO.out.set_ q _).drew
     case measure=>simp[intOf];omega
    ·have hk128:k=128:=by omega
     have k1:¬(k:Int) < 128:=by omega
     rw[show O k=O 128 by rw[hk128]]at HO;have HK2:=zh hk128;clear hk hlt hk128;have cN:wr.cell? ⟨g+1+1,0,none⟩=some (.int .u8 ((bitAt b 0:Nat):Int)):=(HN.out.cell 0).trans ((HEA.out 128 0 (by omega)).trans (by unfold bitsK;rw[if_pos (by decide)]));have hb2:=bitAt_lt b 0;by_cases h1:bitAt b 0=1
     ·rw[h1]at cN;have cO:wr.cell? ⟨o,15,none⟩=some (.int .u8 ((outS b 128 15:Nat):Int)):=(HO.out.cell 15).trans (HOA.out 128 15 (by omega));have fO:=HO.out.frozen 15;have hx:bits .xor .u8 ((outS b 128 15:Nat):Int) 135=((outS b 128 15 ^^^ 135:Nat):Int):=bx _ 135 _ (outS_lt b 128 (by omega) _) (by decide) rfl;have hSk:=HD1.out h1;generalize outS b 128 15 ^^^ 135=v at hx hSk;generalize outS b 128 15=x at cO hx;have HOX:=zh (show Blk (wr.setCell ⟨o,15,none⟩ (.int .u8 (v:Int))) o 23 DB from by rw[<-hSk];exact HO.out.set_ 15 _);have HZX:=zh (HZ.out.far (p:=⟨o,15,none⟩) (by have:=HGO.out;show ¬g+1=o;omega) (.int .u8 (v:Int)));have HBX:=zh (HBW.out.setCell (p:=⟨o,15,none⟩) (by have:=HGO.out;have:=HGG.out;show w.heap.size<=o;omega) (.int .u8 (v:Int)));clear h1 hb2 hSk;go_wp2_with (first
       | (refine wpList_load_row rfl _ _ rfl o rfl 23 DB (0,0) _ HOX.out Tryz.underlying23 rfl HSD.out ?_)
       | (refine wpList_store_row rfl _ _ _ rfl (g+1) DB rfl rfl 23 ZB HZX.out HSD.out HZD.out HOD.out ?_))
      refine bodyPost_ret (v:=.agg DB) (results_cell_row (g:=g+1) (t:=23) (fr:=(0,0)) Tryz.results108 _ _ DB _ rfl (setRow_heap _ (g+1) ZB DB 23 (0,0) HZX.out) Tryz.underlying23 rfl HSD.out) rfl ⟨rfl,?_⟩
      exact belowRow HBX.out (by have:=HGG.out;omega) _
     ·have h0:bitAt b 0=0:=by omega
      rw[h0]at cN;have HOX:=zh (show Blk wr o 23 DB from by rw[<-HD0.out h0];exact HO.out);clear h1 hb2 h0;go_wp2_with (first
       | (refine wpList_load_row rfl _ _ rfl o rfl 23 DB (0,0) _ HOX.out Tryz.underlying23 rfl HSD.out ?_)
       | (refine wpList_store_row rfl _ _ _ rfl (g+1) DB rfl rfl 23 ZB HZ.out HSD.out HZD.out HOD.out ?_))
      refine bodyPost_ret (v:=.agg DB) (results_cell_row (g:=g+1) (t:=23) (fr:=(0,0)) Tryz.results108 _ _ DB _ rfl (setRow_heap _ (g+1) ZB DB 23 (0,0) HZ.out) Tryz.underlying23 rfl HSD.out) rfl ⟨rfl,?_⟩
      exact belowRow HBW.out (by have:=HGG.out;omega) _
theorem rsubkeys_ok (key:Nat->Nat) (hk:B16 key) (w:World) :
  Calls Tryz.prog 87 #[.agg (b16 key)] w fun e w'=>e=.returned (.tuple #[.agg (b16 (key1 key)),.agg (b16 (key2 key))])/\Below w.heap.size w w':=by
 have HEN:=zh (fun V=>renc_ok key zB hk zB_lt V);have HD1:=zh (fun V=>rdouble_ok (aesF key zB) (aesF_lt hk zB_lt) V);have HD2:=zh (fun V=>rdouble_ok (key1 key) (key1_lt hk) V);rw[show b16 zB=#[.int .u8 0,.int .u8 0,.int .u8 0,.int .u8 0,.int .u8 0,.int .u8 0,.int .u8 0,.int .u8 0,.int .u8 0,.int .u8 0,.int .u8 0,.int .u8 0,.int .u8 0,.int .u8 0,.int .u8 0,.int .u8 0]from b16z]at HEN;have HSK:=zh (size16 key);have HS1:=zh (size16 (key1 key));have HS2:=zh (size16 (key2 key));have HO1:=zh (b16_one (key1 key));have HO2:=zh (b16_one (key2 key));obtain⟨KY,hKY⟩:∃X,X=b16 key:=⟨_,rfl⟩
 obtain⟨EZ,hEZ⟩:∃X,X=b16 (aesF key zB):=⟨_,rfl⟩
 obtain⟨K1,hK1⟩:∃X,X=b16 (key1 key):=⟨_,rfl⟩
 obtain⟨K2,hK2⟩:∃X,X=b16 (key2 key):=⟨_,rfl⟩
 rw[show dblB (aesF key zB)=key1 key from rfl]at HD1;rw[show dblB (key1 key)=key2 key from rfl]at HD2;rw[<-hKY]at HEN HSK;rw[<-hEZ]at HEN HD1;rw[<-hK1]at HD1 HD2 HS1 HO1;rw[<-hK2]at HD2 HS2 HO2;rw[<-hKY,<-hK1,<-hK2];have HZ1:Hid ((#[.int .u8 0,.int .u8 0,.int .u8 0,.int .u8 0,.int .u8 0,.int .u8 0,.int .u8 0,.int .u8 0,.int .u8 0,.int .u8 0,.int .u8 0,.int .u8 0,.int .u8 0,.int .u8 0,.int .u8 0,.int .u8 0]:Array Value).size=K1.size):=zh (by rw[hK1,b16_size];rfl);have HZ2:Hid ((#[.int .u8 0,.int .u8 0,.int .u8 0,.int .u8 0,.int .u8 0,.int .u8 0,.int .u8 0,.int .u8 0,.int .u8 0,.int .u8 0,.int .u8 0,.int .u8 0,.int .u8 0,.int .u8 0,.int .u8 0,.int .u8 0]:Array Value).size=K2.size):=zh (by rw[hK2,b16_size];rfl);have HZ0:Hid ((#[.int .u8 0,.int .u8 0,.int .u8 0,.int .u8 0,.int .u8 0,.int .u8 0,.int .u8 0,.int .u8 0,.int .u8 0,.int .u8 0,.int .u8 0,.int .u8 0,.int .u8 0,.int .u8 0,.int .u8 0,.int .u8 0]:Array Value).size=K1.size):=HZ1;obtain⟨ZB,hZB⟩:∃ZB:Array Value,ZB=#[.int .u8 0,.int .u8 0,.int .u8 0,.int .u8 0,.int .u8 0,.int .u8 0,.int .u8 0,.int .u8 0,.int .u8 0,.int .u8 0,.int .u8 0,.int .u8 0,.int .u8 0,.int .u8 0,.int .u8 0,.int .u8 0]:=⟨_,rfl⟩
 have HZB:=zh hZB;rw[<-hZB]at HZ1 HZ2;clear hKY hEZ hK1 hK2 hZB;go_enter Tryz.func87,Tryz.ntmps87;go_upto_region 1 with (fail)
 obtain⟨bb,hbb⟩:∃bb,bb=w.heap.size:=⟨_,rfl⟩
 refine wp_let (fun V=>Blk V bb 23 KY/\Blk V (bb+1) 23 ZB/\Blk V (bb+1+1) 23 ZB/\Below w.heap.size w V) ⟨by rw[hbb];exact((Blk.new _ _ _).alloc _).alloc _,by rw[hbb,HZB.out];exact(blk_atA _ _ _ _ (by simp)).alloc _,by rw[hbb,HZB.out];exact blk_atA _ _ _ _ (by simp),((bnA _).alloc (by simp only[World.size_alloc];omega) _).alloc (by simp only[World.size_alloc];omega) _⟩ ?_;rintro W1 ⟨b1,b2,b3,b4⟩;have B1:=zh b1;have B2:=zh b2;have B3:=zh b3;have B4:=zh b4;have HBB:=zh hbb;rw[<-hbb];clear b1 b2 b3 b4 hbb;go_upto_region 2 with (first
  | (refine wpList_load_row rfl _ _ rfl bb rfl 23 KY (0,0) _ B1.out Tryz.underlying23 rfl HSK.out ?_)
  | (go_at_call 69;with_reducible refine(HEN.out _).mono ?_;rintro e w3 ⟨rfl,hB⟩;have E3:=zh hB;clear hB)
  | (go_at_call 108;with_reducible refine(HD1.out _).mono ?_;rintro e w4 ⟨rfl,hB⟩;have E4:=zh (E3.out.trans (hB.mono E3.out.size));clear hB)
  | (refine wpList_store_row rfl _ _ _ rfl w4.heap.size K1 rfl rfl 23 _ (Blk.new w4 _ _) HS1.out HZ0.out HO1.out ?_))
 try simp only[Act.put]
 obtain⟨cb,hcb⟩:∃cb,cb=w4.heap.size:=⟨_,rfl⟩
 refine wp_let (fun V=>Blk V cb 23 K1/\Below W1.heap.size W1 V) ⟨by rw[hcb];exact Blk.setRow (Blk.new _ _ _),belowRow (E4.out.alloc E4.out.size _) E4.out.size _⟩ ?_;rintro V ⟨v1,v2⟩;have hne1:cb ≠ bb+1:=by rw[hcb];have:=E4.out.size;have:=B3.out.lt;omega
 have hne2:cb ≠ bb+1+1:=by rw[hcb];have:=E4.out.size;have:=B3.out.lt;omega
 have V1:=zh v1;have V2:=zh (B2.out.below v2 B2.out.lt);have V3:=zh (B3.out.below v2 B3.out.lt);have V4:=zh (B4.out.trans (v2.mono B4.out.size));rw[<-hcb];have HKR:=zh (show ∀W',KeepF (fun k=>k=bb+1\/k=bb+1+1) V W'->W'.rangeAt cb 0 K1.toList from fun W' hW=>Blk.range (hW.blk V1.out (fun h=>by rcases h with h | h;exact hne1 h;exact hne2 h)) K1.toList (by rw[Array.toArray_toList]));have HSC:Hid ((Tryz.prog.info? 23).map (·.size)=some K1.toList.length):=zh (by rw[Array.length_toList];exact HS1.out);have HUC:=zh Tryz.underlying23;clear v1 v2 hcb hne1 hne2;obtain⟨w0,hw0⟩:∃w0,w0=V.drew:=⟨_,rfl⟩
 have hb0:Below V.heap.size V w0:=by rw[hw0];exact(Below.refl _ _).drew
 refine wp_region_held_drew (S:=fun w'=>KeepF (fun k=>k=bb+1\/k=bb+1+1) V w') (by kernel_rfl) ((KeepF.refl (w:=V)).drew) (fun hHeld=>?_);rw[<-hw0];rw[<-hw0]at hHeld;clear hw0;refine' wpAnyH_take (i:=0) (oi:=⟨some 9,_,_,_,_,_⟩) (v:=_) rfl (by kernel_rfl) (by kernel_rfl) (by kernel_rfl) (fun _ _ _ h=>h) (yieldsIf_load_mid (by rfl) _ _ rfl cb 0 rfl K1.toList _ (fun w h=>HKR.out w h) HUC.out rfl HSC.out) (by assumption) ?_
 try simp only[Act.put,qa,qb,qc]
 refine' wpAnyH_take (i:=1) (oi:=⟨some 10,_,_,_,_,_⟩) (v:=_) rfl (by kernel_rfl) (by kernel_rfl) (by kernel_rfl) (fun _ _ _ h=>h) (yieldsIf_load_mid (by rfl) _ _ rfl cb 0 rfl K1.toList _ (fun w h=>HKR.out w h) HUC.out rfl HSC.out) (by assumption) ?_
 try simp only[Act.put,qa,qb,qc]
 refine rdH (i:=2) (x:=some 11) rfl fun K hK=>?_;go_simp;refine(HD2.out w0).mono ?_;rintro e w5 ⟨rfl,hB⟩;dsimp only;have H5:KeepF (fun k=>k=bb+1\/k=bb+1+1) V w5:=hHeld.trans (KeepF.of_below (F:=fun _=>False) hB) (fun _ _ h=>h.elim);have C2:=V2.out.below (hb0.trans (hB.mono hb0.size)) V2.out.lt;have C3:=V3.out.below (hb0.trans (hB.mono hb0.size)) V3.out.lt;refine hK.out _ _ H5 (fun hHeld=>?_);clear hK K hB
 try simp only[Act.put,qa,qb,qc]
 refine rdH (i:=3) (x:=none) rfl fun K hK=>?_;refine wp_store_row _ _ _ rfl (bb+1) K1 rfl rfl 23 ZB C2 HS1.out HZ1.out HO1.out ?_;have H6:KeepF (fun k=>k=bb+1\/k=bb+1+1) V (w5.setRow (bb+1) K1):=⟨H5.os,H5.tape,H5.output,by rw[size_setRow];exact H5.size,fun k hk hn=>(setRow_other w5 (bb+1) k K1 (fun e=>hn (.inl e))).trans (H5.block k hk hn)⟩
 have D2:Blk (w5.setRow (bb+1) K1) (bb+1) 23 K1:=Blk.setRow C2;have D3:Blk (w5.setRow (bb+1) K1) (bb+1+1) 23 ZB:=Blk.farRow C3 (by omega);refine hK.out _ _ H6 (fun hHeld=>?_);clear hK K
 try simp only[Act.put]
 refine rdH (i:=4) (x:=none) rfl fun K hK=>?_;refine wp_store_row _ _ _ rfl (bb+1+1) K2 rfl rfl 23 ZB D3 HS2.out HZ2.out HO2.out ?_;have H7:KeepF (fun k=>k=bb+1\/k=bb+1+1) V ((w5.setRow (bb+1) K1).setRow (bb+1+1) K2):=⟨H6.os,H6.tape,H6.output,by rw[size_setRow];exact H6.size,fun k hk hn=>(setRow_other _ (bb+1+1) k K2 (fun e=>hn (.inr e))).trans (H6.block k hk hn)⟩
 have F2:Blk ((w5.setRow (bb+1) K1).setRow (bb+1+1) K2) (bb+1) 23 K1:=Blk.farRow D2 (by omega);have F3:Blk ((w5.setRow (bb+1) K1).setRow (bb+1+1) K2) (bb+1+1) 23 K2:=Blk.setRow D3;refine hK.out _ _ H7 (fun hHeld=>?_);clear hK K
 try simp only[Act.put]
 refine wpAnyH_done (by kernel_rfl) ?_ _;go_wp2;refine bodyPost_ret (v:=.tuple #[.agg K1,.agg K2]) (results_two_rows (g1:=bb+1) (g2:=bb+1+1) (t:=23) (f1:=(0,0)) (f2:=(0,0)) Tryz.results87 _ _ _ _ _ rfl F2 rfl F3 Tryz.underlying23 rfl HS1.out HS2.out) rfl ⟨rfl,?_⟩
 exact KeepF.below V4.out H7 (fun k hk=>by rcases hk with h | h<;>(rw[h,HBB.out];omega)) V4.out.size
end Go.Proofs.YtnadmdadcpemnaaGreat
namespace Go.Proofs.YtnadmdadcpemnaaGreat
set_option linter.unusedVariables false
set_option linter.unusedSimpArgs false
open Go
def padL (n:Nat):Nat:=16*nBlk n
def padF (z:Nat->Nat) (n:Nat):Nat->Nat:=fun j=>if j < n then z j else if j=n then 128 else 0
def kSel (key:Nat->Nat) (n:Nat):Nat->Nat:=if n=0\/n % 16 ≠ 0 then key2 key else key1 key
def msgI (key z:Nat->Nat) (n i:Nat):Nat->Nat:=fun j=>if padL n-16<=j/\j < padL n-16+i then padF z n j ^^^ kSel key n (j-(padL n-16)) else padF z n j
theorem padL_ge (n:Nat):n<=padL n/\16<=padL n/\padL n<=n+16:=by unfold padL nBlk;split<;>omega
theorem padL_same {n:Nat} (h:¬(n=0\/n % 16 ≠ 0)):padL n=n:=by unfold padL nBlk;rw[if_neg (by omega)];omega
theorem padL_mod (n:Nat):padL n % 16=0:=by unfold padL;omega
theorem padL_next {n j:Nat} (h1:n < j) (h2:j<=padL n) (h3:j % 16=0):j=padL n:=by revert h2;unfold padL nBlk;split<;>omega
theorem padL_more {n j:Nat} (h:n=0\/n % 16 ≠ 0) (h1:n < j) (h2:j<=padL n) (h3:j % 16 ≠ 0):j < padL n:=by have:=padL_mod n;omega
theorem padL_pad {n:Nat} (h:n=0\/n % 16 ≠ 0):n+1<=padL n:=by unfold padL nBlk;split<;>omega
theorem kSel_lt {key:Nat->Nat} (hk:B16 key) (n:Nat):B16 (kSel key n):=by
 unfold kSel
 split
 ·exact key2_lt hk
 ·exact key1_lt hk
theorem padF_lt {z:Nat->Nat} {n:Nat} (hz:∀j,j < n->z j < 256) (j:Nat):padF z n j < 256:=by
 unfold padF
 split
 ·exact hz _ (by assumption)
 ·split<;>decide
theorem msgI_lt {key z:Nat->Nat} {n:Nat} (hk:B16 key) (hz:∀j,j < n->z j < 256) (i:Nat) (hi:i<=16) (j:Nat):msgI key z n i j < 256:=by
 unfold msgI
 split
 ·exact xor_lt (padF_lt hz j) (kSel_lt hk n _ (by omega))
 ·exact padF_lt hz j
theorem msgI_zero (key z:Nat->Nat) (n j:Nat):msgI key z n 0 j=padF z n j:=by unfold msgI;rw[if_neg (by omega)]
theorem msgI_here (key z:Nat->Nat) (n i:Nat):msgI key z n i (padL n-16+i)=padF z n (padL n-16+i):=by unfold msgI;rw[if_neg (by omega)]
theorem msgI_next (key z:Nat->Nat) (n i:Nat):msgI key z n (i+1)=upd (msgI key z n i) (padL n-16+i) (msgI key z n i (padL n-16+i) ^^^ kSel key n i):=by
 funext j
 rw[msgI_here];unfold upd;by_cases h:j=padL n-16+i
 ·rw[if_pos h];unfold msgI;rw[if_pos (by omega),h,show padL n-16+i-(padL n-16)=i by omega]
 ·rw[if_neg h];unfold msgI;by_cases h2:padL n-16<=j/\j < padL n-16+i
  ·rw[if_pos h2,if_pos (by omega)]
  ·rw[if_neg h2,if_neg (by omega)]
theorem msg_blk (key z:Nat->Nat) (n q j:Nat) (hq:q < nBlk n) (hj:j < 16):msgI key z n 16 (16*q+j)=macB key z n q j:=by
 have hP:padL n=16*nBlk n:=rfl;unfold macB;by_cases hl:n<=16*q+16
 ·have hqn:q+1=nBlk n:=by
   revert hq
   unfold nBlk
   split<;>omega
  rw[if_pos hl];unfold msgI;rw[if_pos (by omega),show 16*q+j-(padL n-16)=j by omega];have hn:n=0\/16*q < n:=by
   by_cases h0:n=0
   ·exact .inl h0
   ·right
    revert hqn
    unfold nBlk;rw[if_neg h0];omega
  have hq0:n=0->q=0:=fun h=>by
   subst h;have:nBlk 0=1:=rfl;omega
  by_cases hr:n-16*q=16
  ·have hk:¬(n=0\/n % 16 ≠ 0):=by omega
   unfold lastB kSel;rw[if_pos hr,if_neg hk];unfold plusB blkAt padF;rw[if_pos (by omega),if_pos (by omega)]
  ·have hk:n=0\/n % 16 ≠ 0:=by omega
   unfold lastB kSel;rw[if_neg hr,if_pos hk];unfold plusB blkAt padF upd;by_cases h1:16*q+j < n
   ·rw[if_pos h1,if_neg (by omega)];show _=(if 16*q+j < n then z (16*q+j) else 0) ^^^ key2 key j;rw[if_pos h1]
   ·rw[if_neg h1];by_cases h2:16*q+j=n
    ·rw[if_pos h2,if_pos (by omega)]
    ·rw[if_neg h2,if_neg (by have:=hq0;omega)];show _=(if 16*q+j < n then z (16*q+j) else 0) ^^^ key2 key j;rw[if_neg h1]
 ·have h1:16*q+16 < padL n:=by have:=padL_ge n;omega
  rw[if_neg hl];have h2:16*q+32<=padL n:=by omega
  unfold msgI;rw[if_neg (by omega)];unfold blkAt padF;rw[if_pos (by omega),if_pos (by omega)]
end Go.Proofs.YtnadmdadcpemnaaGreat
namespace Go.Proofs.YtnadmdadcpemnaaGreat
set_option linter.unusedVariables false
set_option linter.unusedSimpArgs false
open Go.RowKit
attribute [local go_sem ↓] Go.wp_at_zero Go.wp_at_succ
def rlenV:Value->Nat
 | .slice _ n _=>n
 | _=>0
def padS (z:Nat->Nat) (n k:Nat):List Value:=(List.range k).map fun j=>.int .u8 ((padF z n j:Nat):Int)
def msgS (key z:Nat->Nat) (n i:Nat):List Value:=(List.range (padL n)).map fun j=>.int .u8 ((msgI key z n i j:Nat):Int)
theorem padS_next (z:Nat->Nat) (n k:Nat) (v:Nat) (h:padF z n k=v):padS z n (k+1)=padS z n k++[.int .u8 (v:Int)]:=by
 unfold padS;rw[List.range_succ,List.map_append,<-h]
 rfl
theorem padS_msg (z:Nat->Nat) (n:Nat):padS z n n=(List.range n).map fun j=>.int .u8 ((z j:Nat):Int):=by
 unfold padS;refine List.map_congr_left fun j hj=>?_;rw[List.mem_range]at hj;unfold padF;rw[if_pos hj]
theorem msgS_zero (key z:Nat->Nat) (n:Nat):msgS key z n 0=padS z n (padL n):=by
 unfold msgS padS;refine List.map_congr_left fun j _=>?_;rw[msgI_zero]
theorem msgS_next (key z:Nat->Nat) (n i:Nat) (hi:i < 16):(msgS key z n i).set (padL n-16+i) (.int .u8 ((msgI key z n i (padL n-16+i) ^^^ kSel key n i:Nat):Int))=msgS key z n (i+1):=by
 have hp:=padL_ge n;unfold msgS;apply List.ext_getElem?;intro j;rw[List.getElem?_set,List.length_map,List.length_range,List.getElem?_map,List.getElem?_map];by_cases e:padL n-16+i=j
 ·rw[if_pos e,if_pos (by omega),<-e,List.getElem?_range (by omega),Option.map_some,msgI_next];unfold upd;rw[if_pos rfl]
 ·rw[if_neg e];by_cases hj:j < padL n
  ·rw[List.getElem?_range hj,Option.map_some,Option.map_some,msgI_next];unfold upd;rw[if_neg (fun h=>e h.symm)]
  ·rw[List.getElem?_eq_none (by simp;omega)]
   rfl
theorem msgS_at (key z:Nat->Nat) (n i:Nat) {j:Nat} (hj:j < padL n):(msgS key z n i)[j]? = some (.int .u8 ((msgI key z n i j:Nat):Int)):=by
 unfold msgS;rw[List.getElem?_map,List.getElem?_range hj]
 rfl
theorem src_one (V:World) (x:Int):Src Tryz.prog 1 35 (.slice (some ⟨V.heap.size,0,none⟩) 1 1) 1 [.int .u8 x] (V.alloc (.cells #[.int .u8 x] 5)):=
 Src.ofSlice _ Tryz.underlying35 ⟨V.heap.size,0,none⟩ 1 1 [.int .u8 x] (by rfl) (fun j u hu=>by
  cases j with
  | zero=>rw[Addr.add_lit];simp at hu;subst hu;exact(blk_atA V 5 #[.int .u8 x] V.heap.size rfl).cell 0
  | succ j=>simp at hu) (by intro u hu;simp at hu;subst hu;rfl)
structure RSumI (w0:World) (kb kc kk:Nat) (KY ZB KS:Array Value) (V:World) (A:Option Addr) (k c:Nat) (xs:List Value):Prop where
 sl:SL V 5 1 A k c xs
 ad:∀a,A=some a->kc+1 < a.block/\a.block ≠ kk
 ks:Blk V kk 23 KS
 ky:Blk V kb 23 KY
 zb:Blk V (kb+1) 23 ZB
 lo:Below w0.heap.size w0 V
theorem RSumI.keep {w0:World} {kb kc kk:Nat} {KY ZB KS:Array Value} {V V':World} {A:Option Addr} {k c:Nat} {xs:List Value} (h:RSumI w0 kb kc kk KY ZB KS V A k c xs) (hb:Below V.heap.size V V'):RSumI w0 kb kc kk KY ZB KS V' A k c xs:=
 ⟨h.sl.next hb,h.ad,h.ks.below hb h.ks.lt,h.ky.below hb h.ky.lt,h.zb.below hb h.zb.lt,h.lo.trans (hb.mono h.lo.size)⟩
theorem RSumI.app {w0:World} {kb kc kk:Nat} {KY ZB KS:Array Value} {V V':World} {A A':Option Addr} {k c k' c':Nat} {xs xs':List Value} (h:RSumI w0 kb kc kk KY ZB KS V A k c xs) (hlk:w0.heap.size<=kb/\kb+1 < kc/\kc+1 < kk) (hs:SL V' 5 1 A' k' c' xs') (hk:KeepF (fun b=>∃a,A=some a/\b=a.block) V V') (ha:∀a,A'=some a->(∃a',A=some a'/\a.block=a'.block)\/V.heap.size<=a.block):RSumI w0 kb kc kk KY ZB KS V' A' k' c' xs':=
 ⟨hs,fun a e=>by
  rcases ha a e with ⟨a',h1,h2⟩ | h2
  ·rw[h2];exact h.ad a' h1
  ·have:=h.ks.lt;have:=h.zb.lt;omega,
  hk.blk h.ks (fun⟨a,e1,e2⟩=>(h.ad a e1).2 e2.symm),hk.blk h.ky (fun⟨a,e1,e2⟩=>by have:=(h.ad a e1).1;omega),hk.blk h.zb (fun⟨a,e1,e2⟩=>by have:=(h.ad a e1).1;omega),
  KeepF.below h.lo hk (fun b ⟨a,e1,e2⟩=>by have:=(h.ad a e1).1;omega) h.lo.size⟩
theorem rsum_ok (key:Nat->Nat) (hk:B16 key) (A:Option Addr) (n c:Nat) (z:Nat->Nat) (hn1:1<=n) (hn9:n<=1000000) (hz:∀j,j < n->z j < 256) (w:World) (hr:Row w w.heap.size A n (fun j=>.int .u8 ((z j:Nat):Int))) :
  Calls Tryz.prog 68 #[.agg (b16 key),.slice A n c] w fun e w'=>e=.returned (.agg (b16 (macF key z n)))/\Below w.heap.size w w':=by
 obtain⟨i0,hi0,hz0,hz1,hz2⟩:=info_parts Tryz.infoByte;have HSUB:=zh (fun V=>rsubkeys_ok key hk V);have HEN:=zh (fun q V=>renc_ok key (plusB (macS key z n q) (macB key z n q)) hk (plusB_lt (macS_lt hk hz q) (macB_lt hk hz q)) V);have HMS:=zh (fun q=>macS_lt (n:=n) hk hz q);have HMB:=zh (fun q=>macB_lt (n:=n) hk hz q);have HMI:=zh (fun i hi j=>msgI_lt (n:=n) hk hz i hi j);have HKSL:=zh (kSel_lt hk n);have HZ8:=zh hz;have HN:=zh (And.intro hn1 hn9);have HR:=zh hr;have HSK:=zh (size16 key);obtain⟨KY,hKY⟩:∃X,X=b16 key:=⟨_,rfl⟩
 obtain⟨K1,hK1⟩:∃X,X=b16 (key1 key):=⟨_,rfl⟩
 obtain⟨K2,hK2⟩:∃X,X=b16 (key2 key):=⟨_,rfl⟩
 obtain⟨KS,hKS⟩:∃X,X=b16 (kSel key n):=⟨_,rfl⟩
 obtain⟨S,hS⟩:∃S:Nat->Array Value,S=fun q=>b16 (macS key z n q):=⟨_,rfl⟩
 obtain⟨X,hX⟩:∃X:Nat->Nat->Array Value,X=fun q i=>b16 (xorK (macS key z n q) (macB key z n q) i):=⟨_,rfl⟩
 have HS1:Hid ((Tryz.prog.info? 23).map (·.size)=some K1.size):=zh (by rw[hK1];exact size16 _);have HS2:Hid ((Tryz.prog.info? 23).map (·.size)=some K2.size):=zh (by rw[hK2];exact size16 _);have HO1:Hid (K1.all (·.oneCell')=true):=zh (by rw[hK1];exact b16_one _);have HO2:Hid (K2.all (·.oneCell')=true):=zh (by rw[hK2];exact b16_one _);have HL1:Hid (K1.size=16):=zh (by rw[hK1,b16_size]);have HL2:Hid (K2.size=16):=zh (by rw[hK2,b16_size]);have HZ1:Hid ((#[.int .u8 0,.int .u8 0,.int .u8 0,.int .u8 0,.int .u8 0,.int .u8 0,.int .u8 0,.int .u8 0,.int .u8 0,.int .u8 0,.int .u8 0,.int .u8 0,.int .u8 0,.int .u8 0,.int .u8 0,.int .u8 0]:Array Value).size=K1.size):=zh (by rw[hK1,b16_size];rfl);have HZ2:Hid ((#[.int .u8 0,.int .u8 0,.int .u8 0,.int .u8 0,.int .u8 0,.int .u8 0,.int .u8 0,.int .u8 0,.int .u8 0,.int .u8 0,.int .u8 0,.int .u8 0,.int .u8 0,.int .u8 0,.int .u8 0,.int .u8 0]:Array Value).size=K2.size):=zh (by rw[hK2,b16_size];rfl);have HZ21:Hid (K1.size=K2.size):=zh (by rw[hK1,hK2,b16_size,b16_size]);have HKS1:Hid (¬(n=0\/n % 16 ≠ 0)->K1=KS):=zh (fun h=>by rw[hK1,hKS];unfold kSel;rw[if_neg h]);have HKS2:Hid ((n=0\/n % 16 ≠ 0)->K2=KS):=zh (fun h=>by rw[hK2,hKS];unfold kSel;rw[if_pos h]);have HKSA:Hid (∀j,j < 16->KS[j]? = some (.int .u8 ((kSel key n j:Nat):Int))):=zh (by rw[hKS];exact fun j hj=>b16_at _ hj);have HXA:Hid (∀q i j,j < 16->(X q i)[j]? = some (.int .u8 ((xorK (macS key z n q) (macB key z n q) i j:Nat):Int))):=zh (by rw[hX];exact fun q i j hj=>b16_at _ hj);have HX0:Hid (∀q,S q=X q 0):=zh (by rw[hX,hS];exact fun q=>b16_congr fun j hj=>by unfold xorK;rw[if_neg (by omega)]);have HX16:Hid (∀q,X q 16=b16 (plusB (macS key z n q) (macB key z n q))):=zh (by rw[hX];exact fun q=>b16_congr fun j hj=>by unfold xorK plusB;rw[if_pos hj]);have HXS:Hid (∀q i,i < 16->(X q i).setIfInBounds i (.int .u8 ((macS key z n q i ^^^ macB key z n q i:Nat):Int))=X q (i+1)):=zh (by rw[hX];exact fun q i hi=>xorK_set _ _ i hi);have HSX:Hid (∀q,(Tryz.prog.info? 23).map (·.size)=some (X q 16).size):=zh (by rw[hX];exact fun q=>size16 _);have HSN:Hid (∀q,b16 (aesF key (plusB (macS key z n q) (macB key z n q)))=S (q+1)):=zh (by rw[hS];exact fun q=>rfl);have HSS:Hid (∀q,(Tryz.prog.info? 23).map (·.size)=some (S q).size/\(S q).size=16/\(S q).all (·.oneCell')=true):=zh (by rw[hS];exact fun q=>⟨size16 _,b16_size _,b16_one _⟩);have HXZ:Hid (∀q i,(X q i).size=16):=zh (by rw[hX];exact fun q i=>b16_size _);have HS0:Hid (S 0=#[.int .u8 0,.int .u8 0,.int .u8 0,.int .u8 0,.int .u8 0,.int .u8 0,.int .u8 0,.int .u8 0,.int .u8 0,.int .u8 0,.int .u8 0,.int .u8 0,.int .u8 0,.int .u8 0,.int .u8 0,.int .u8 0]):=zh (by rw[hS];exact b16z);have HSF:Hid (S (nBlk n)=b16 (macF key z n)):=zh (by rw[hS];rfl);have HEN2:Hid (∀q V,Calls Tryz.prog 69 #[.agg KY,.agg (X q 16)] V fun e w'=>e=.returned (.agg (S (q+1)))/\Below V.heap.size V w'):=zh (fun q V=>by rw[hKY,HX16.out,<-HSN.out];exact HEN.out q V);obtain⟨PS,hPS⟩:∃PS:Nat->List Value,PS=padS z n:=⟨_,rfl⟩
 obtain⟨MS,hMS⟩:∃MS:Nat->List Value,MS=msgS key z n:=⟨_,rfl⟩
 have HPN:Hid (PS n=(List.range n).map fun j=>.int .u8 ((z j:Nat):Int)):=zh (by rw[hPS];exact padS_msg z n);have HP1:Hid (PS (n+1)=PS n++[.int .u8 128]):=zh (by rw[hPS];exact padS_next z n n 128 (by unfold padF;rw[if_neg (by omega),if_pos rfl]));have HP0:Hid (∀k,n < k->PS (k+1)=PS k++[.int .u8 0]):=zh (by rw[hPS];exact fun k hk=>padS_next z n k 0 (by unfold padF;rw[if_neg (by omega),if_neg (by omega)]));have HM0:Hid (MS 0=PS (padL n)):=zh (by rw[hMS,hPS];exact msgS_zero key z n);have HMN:Hid (∀i,i < 16->(MS i).set (padL n-16+i) (.int .u8 ((msgI key z n i (padL n-16+i) ^^^ kSel key n i:Nat):Int))=MS (i+1)):=zh (by rw[hMS];exact msgS_next key z n);have HMA:Hid (∀i j,j < padL n->(MS i)[j]? = some (.int .u8 ((msgI key z n i j:Nat):Int))):=zh (by rw[hMS];exact fun i j hj=>msgS_at key z n i hj);have HMK:Hid (∀q j,q < nBlk n->j < 16->msgI key z n 16 (16*q+j)=macB key z n q j):=zh (msg_blk key z n);obtain⟨N,hN⟩:∃N,N=padL n:=⟨_,rfl⟩
 have HPL:=zh (show n<=N/\16<=N/\N<=n+16/\N % 16=0/\N=16*nBlk n by have h1:=padL_ge n;have h2:=padL_mod n;rw[hN];exact⟨h1.1,h1.2.1,h1.2.2,h2,rfl⟩);have HPX:=zh (show(¬(n=0\/n % 16 ≠ 0)->N=n)/\((n=0\/n % 16 ≠ 0)->n+1<=N)/\(∀j,n < j->j<=N->j % 16=0->j=N)/\(∀j,(n=0\/n % 16 ≠ 0)->n < j->j<=N->j % 16 ≠ 0->j < N) by rw[hN];exact⟨padL_same,padL_pad,fun j=>padL_next,fun j=>padL_more⟩);rw[<-hN]at HM0 HMN HMA;obtain⟨M,hM⟩:∃M,M=nBlk n:=⟨_,rfl⟩
 rw[<-hM]at HPL HSF HMK;rw[<-hKY]at HSUB HSK;rw[<-hK1,<-hK2]at HSUB;rw[<-hKY,<-HSF.out];obtain⟨ZB,hZB⟩:∃ZB:Array Value,ZB=#[.int .u8 0,.int .u8 0,.int .u8 0,.int .u8 0,.int .u8 0,.int .u8 0,.int .u8 0,.int .u8 0,.int .u8 0,.int .u8 0,.int .u8 0,.int .u8 0,.int .u8 0,.int .u8 0,.int .u8 0,.int .u8 0]:=⟨_,rfl⟩
 have HZB:=zh hZB;have HZBS:Hid (ZB.size=16):=zh (by rw[hZB];rfl);clear hKY hK1 hK2 hKS hS hX hPS hMS hN hM hk hz hr hn1 hn9 hZB HEN HX16 HSN;go_enter Tryz.func68,Tryz.ntmps68;go_upto_region 1 with (fail)
 obtain⟨kb,hkb⟩:∃kb,kb=w.heap.size:=⟨_,rfl⟩
 refine wp_let (fun V=>Blk V kb 23 KY/\Blk V (kb+1) 23 ZB/\Below w.heap.size w V) ⟨by rw[hkb];exact(Blk.new _ _ _).alloc _,by rw[hkb,HZB.out];exact blk_atA _ _ _ _ (by simp),(bnA _).alloc (by simp only[World.size_alloc];omega) _⟩ ?_;rintro W1 ⟨b1,b2,b3⟩;have B1:=zh b1;have B2:=zh b2;have B3:=zh b3;have HKB:=zh hkb;rw[<-hkb];clear b1 b2 b3 hkb;go_upto_region 2 with (first
  | (refine wpList_load_row rfl _ _ rfl kb rfl 23 KY (0,0) _ B1.out Tryz.underlying23 rfl HSK.out ?_)
  | (go_at_call 87;with_reducible refine(HSUB.out _).mono ?_;rintro e w2 ⟨rfl,hB⟩;have E2:=zh hB;clear hB)
  | (refine wpList_store_row rfl _ _ _ rfl w2.heap.size K1 rfl rfl 23 _ ((Blk.new w2 _ _).alloc _) HS1.out HZ1.out HO1.out ?_)
  | (refine wpList_store_row rfl _ _ _ rfl (w2.heap.size+1) K2 rfl rfl 23 _ (Blk.farRow (blk_atA _ _ _ _ (by simp)) (by omega)) HS2.out HZ2.out HO2.out ?_))
 obtain⟨kc,hkc⟩:∃kc,kc=w2.heap.size:=⟨_,rfl⟩
 refine wp_let (fun V=>Blk V kc 23 K1/\Blk V (kc+1) 23 K2/\Below W1.heap.size W1 V) ⟨by rw[hkc];exact Blk.farRow (Blk.setRow ((Blk.new w2 _ _).alloc _)) (by omega),by rw[hkc];exact Blk.setRow (Blk.farRow (blk_atA _ _ _ _ (by simp)) (by omega)),belowRow (belowRow (((E2.out).alloc E2.out.size _).alloc (by have:=E2.out.size;simp only[World.size_alloc];omega) _) E2.out.size _) (by have:=E2.out.size;omega) _⟩ ?_;rintro W2 ⟨b1,b2,b3⟩;have C1:=zh b1;have C2:=zh b2;have D1:=zh (B1.out.below b3 B1.out.lt);have D2:=zh (B2.out.below b3 B2.out.lt);have D3:=zh (B3.out.trans (b3.mono B3.out.size));have HKC:=zh (show w.heap.size<=kb/\kb+1 < kc by have:=HKB.out;have:=B2.out.lt;have:=E2.out.size;omega);rw[<-hkc];have hrow:=HR.out.next D3.out;obtain⟨lb,lo,hAA,hlb,hlc⟩:=hrow (by have:=HN.out;omega);subst hAA;have HSRC:Hid (Src Tryz.prog 1 35 (.slice (some ⟨lb,lo,none⟩) n c) n (PS n) W2):=zh (by
  rw[HPN.out]
  exact Src.ofSlice _ Tryz.underlying35 ⟨lb,lo,none⟩ n c _ (by simp) (fun j u hu=>by
   have hj:j < n:=by have:=(List.getElem?_eq_some_iff.1 hu).1;simpa using this
   rw[Addr.add_lit,hlc j hj,<-hu];simp[hj]) (fun u hu=>by
    obtain⟨j,_,rfl⟩:=List.mem_map.1 hu
    rfl))
 clear b1 b2 b3 hkc hrow hlb hlc B1 B2 B3 E2;go_upto_region 3 with (refine wpList_sl_append rfl _ _ _ _ rfl W2 5 i0 (.int .u8 0) 1 1 Tryz.underlying35 hi0 hz0 hz1 hz2 rfl none 0 0 _ rfl (SL.nil _ _ _) _ rfl n (PS n) HSRC.out HN.out.1 (by have:=HN.out;unfold maxLen;omega) (by have:=HN.out;omega) ?_;intro A3 c3 W3 hs3 hk3 ha3;have HS3:=zh hs3;have HK3:=zh hk3;have HA3:=zh ha3;clear hs3 hk3 ha3)
 have hb23:Below W2.heap.size W2 W3:=KeepF.below (Below.refl _ _) HK3.out (fun k ⟨a,ha,_⟩=>by cases ha) (Nat.le_refl _);have F1:=zh (C1.out.below hb23 C1.out.lt);have F2:=zh (C2.out.below hb23 C2.out.lt);have G1:=zh (D1.out.below hb23 D1.out.lt);have G2:=zh (D2.out.below hb23 D2.out.lt);have G3:=zh (D3.out.trans (hb23.mono D3.out.size));have HA4:Hid (∀a,A3=some a->kc+1 < a.block/\a.block < W3.heap.size):=zh fun a ha=>by
  refine⟨?_,HS3.out.lt ha⟩;rcases HA3.out a ha with ⟨a',h1,_⟩ | h2
  ·cases h1
  ·have:=C2.out.lt;omega
 rw[List.nil_append,Nat.zero_add]at HS3;clear hb23 C1 C2 D1 D2 D3 HSRC HK3 HA3;go_upto_region 4 with (first
  | (refine wpList_load_row rfl _ _ rfl kc rfl 23 K1 (0,0) _ F1.out Tryz.underlying23 rfl HS1.out ?_)
  | (refine wpList_store_row rfl _ _ _ rfl W3.heap.size K1 rfl rfl 23 _ (Blk.new W3 _ _) HS1.out HZ1.out HO1.out ?_))
 obtain⟨kk,hkk⟩:∃kk,kk=W3.heap.size:=⟨_,rfl⟩
 refine wp_let (fun V=>Blk V kk 23 K1/\Below W3.heap.size W3 V) ⟨by rw[hkk];exact Blk.setRow (Blk.new W3 _ _),belowRow (bnA _) (Nat.le_refl _) _⟩ ?_;rintro W4 ⟨b1,b2⟩;have HI:=zh (show RSumI w kb kc kk KY ZB K1 W4 A3 n c3 (PS n)from ⟨HS3.out.next b2,fun a ha=>⟨by have:=HA4.out a ha;have:=HKC.out;omega,by have:=HA4.out a ha;omega⟩,b1,G1.out.below b2 G1.out.lt,G2.out.below b2 G2.out.lt,G3.out.trans (b2.mono G3.out.size)⟩);have F3:=zh (F2.out.below b2 F2.out.lt);have HKK:=zh (show w.heap.size<=kb/\kb+1 < kc/\kc+1 < kk by have h1:=HKC.out;have h2:=F2.out.lt;exact⟨h1.1,h1.2,by omega⟩);rw[<-hkk];have hn0:(0:Int)<=(n:Int):=by omega
 have hn1:((n:Int) == 0)=false:=by have:=HN.out;simp;omega
 have ht:(n:Int).tmod 16=((n % 16:Nat):Int):=by rw[Int.tmod_eq_emod_of_nonneg (by omega)];omega
 obtain⟨r,hr⟩:∃r,r=n % 16:=⟨_,rfl⟩
 rw[<-hr]at ht;have HRR:=zh hr;clear b1 b2 hkk F1 F2 G1 G2 G3 HS3 HA4 hr;obtain⟨pq,hpq⟩:∃pq:Bool,((r:Int) != 0)=pq:=⟨_,rfl⟩
 go_upto_if 29 with (fail)
 have HPQ:=zh hpq;clear hpq;go_cut [7]from 30 to 40 (fun v7 wx=>∃A c,v7=.slice A N c/\RSumI w kb kc kk KY ZB KS wx A N c (PS N))
 case first=>
  by_cases hr0:r=0
  ·have t1:pq=false:=by rw[<-HPQ.out,hr0];rfl
   subst t1;have hs:¬(n=0\/n % 16 ≠ 0):=by have:=HRR.out;have:=HN.out;omega
   have e1:=HKS1.out hs;have e2:=HPX.out.1 hs;have HE:=zh (And.intro e1 e2);clear hr0 hs e1 e2;go_wp2;go_meet
   case rel=>
    refine⟨A3,c3,by rw[HE.out.2],?_⟩;rw[HE.out.2,<-HE.out.1]
    exact HI.out
  ·have t1:pq=true:=by rw[<-HPQ.out];simp;omega
   subst t1;have hs:(n=0\/n % 16 ≠ 0):=by have:=HRR.out;omega
   have HSP:=zh hs;clear hr0 hs;go_upto_region 6 with (refine wpList_sl_append rfl _ _ 35 35 rfl (W4.alloc (.cells #[.int .u8 128] 5)) 5 i0 (.int .u8 0) 1 1 Tryz.underlying35 hi0 hz0 hz1 hz2 rfl A3 n c3 (PS n) rfl (HI.out.keep (bnA _)).sl (.slice (some ⟨W4.heap.size,0,none⟩) 1 1) rfl 1 [.int .u8 128] (src_one W4 128) (by decide) (by have:=HN.out;unfold maxLen;omega) (by have:=HN.out;omega) ?_;intro A5 c5 W5 hs5 hk5 ha5;have HI5:=zh ((HI.out.keep (bnA _)).app HKK.out hs5 hk5 ha5);have HX5:=zh (hk5.blk (F3.out.alloc _) (fun⟨a,e1,e2⟩=>by have:=(HI.out.ad a e1);omega));clear hs5 hk5 ha5)
   rw[<-HP1.out]at HI5;obtain⟨m,hm⟩:∃m,m=n+1:=⟨_,rfl⟩
   have HM:=zh (show n < m/\m<=N by have:=HPX.out.2.1 HSP.out;omega);rw[<-hm]at HI5 ⊢;clear hm;go_loopw [7] (fun v7 wr=>∃(k:Nat) (A:Option Addr) (c:Nat),v7=.slice A k c/\n < k/\k<=N/\RSumI w kb kc kk KY ZB K1 wr A k c (PS k)/\Blk wr (kc+1) 23 K2) (fun v7 _=>N-rlenV v7)
   case atStart=>exact⟨m,A5,c5,rfl,HM.out.1,HM.out.2,HI5.out,HX5.out⟩
   case round=>
    clear HI5 HX5 HM;obtain⟨k,A6,c6,rfl,hk1,hk2,hI,hX⟩:=hrel;have HI6:=zh hI;have HX6:=zh hX;have HK6:=zh (And.intro hk1 hk2);clear hI hX;have hk9:(k:Int)<=1000016:=by have:=HPL.out;have:=HN.out;omega
    have hk0:(0:Int)<=(k:Int):=by omega
    have hkt:(k:Int).tmod 16=((k % 16:Nat):Int):=by rw[Int.tmod_eq_emod_of_nonneg (by omega)];omega
    obtain⟨r6,hr6⟩:∃r6,r6=k % 16:=⟨_,rfl⟩
    rw[<-hr6]at hkt;have HR6:=zh hr6;clear hr6 hk1 hk2;by_cases hr60:r6=0
    ·have t6:((r6:Int) != 0)=false:=by rw[hr60];rfl
     have e6:k=N:=HPX.out.2.2.1 k HK6.out.1 HK6.out.2 (by rw[<-HR6.out,hr60]);have HE6:=zh e6;clear hr60 e6;go_wp2_with (first
      | (refine wpList_load_row rfl _ _ rfl (kc+1) rfl 23 K2 (0,0) _ HX6.out Tryz.underlying23 rfl HS2.out ?_)
      | (refine wpList_store_row rfl _ _ _ rfl kk K2 rfl rfl 23 K1 HI6.out.ks HS2.out HZ21.out HO2.out ?_))
     go_meet
     case rel=>
      have h7:=HI6.out;have hkp:KeepF (fun b=>b=kk) wr (wr.setRow kk K2):=(KeepF.refl (F:=fun b=>b=kk) (w:=wr)).setRow rfl _;refine⟨A6,c6,by rw[HE6.out],⟨?_,h7.ad,?_,hkp.blk h7.ky (by have:=HKK.out;omega),hkp.blk h7.zb (by have:=HKK.out;omega),belowRow h7.lo (by have:=HKK.out;omega) _⟩⟩
      ·rw[<-HE6.out]
       exact h7.sl.keepF hkp (fun a ha=>(h7.ad a ha).2)
      ·rw[<-HKS2.out HSP.out]
       exact Blk.setRow h7.ks
    ·have t6:((r6:Int) != 0)=true:=by simp;omega
     have hlt:=HPX.out.2.2.2 k HSP.out HK6.out.1 HK6.out.2 (by rw[<-HR6.out];exact hr60);have HLT:=zh hlt;clear hr60 hlt;go_wp2_with (refine wpList_sl_append rfl _ _ 35 35 rfl (wr.alloc (.cells #[.int .u8 0] 5)) 5 i0 (.int .u8 0) 1 1 Tryz.underlying35 hi0 hz0 hz1 hz2 rfl A6 k c6 (PS k) rfl (HI6.out.keep (bnA _)).sl (.slice (some ⟨wr.heap.size,0,none⟩) 1 1) rfl 1 [.int .u8 0] (src_one wr 0) (by decide) (by unfold maxLen;omega) (by omega) ?_;intro A7 c7 W7 hs7 hk7 ha7;have HI7:=zh ((HI6.out.keep (bnA _)).app HKK.out hs7 hk7 ha7);have HX7:=zh (hk7.blk (HX6.out.alloc _) (fun⟨a,e1,e2⟩=>by have:=(HI6.out.ad a e1);omega));clear hs7 hk7 ha7);go_roundw
     case rel=>
      refine⟨k+1,A7,c7,rfl,by have:=HK6.out;omega,HLT.out,?_,HX7.out⟩;rw[HP0.out k HK6.out.1]
      exact HI7.out
     case measure=>have:=HLT.out;show N-(k+1) < N-k;omega
 case rest=>
  obtain⟨A8,c8,rfl,hI⟩:=hcut;obtain⟨mb,mo,rfl,hmb⟩:=hI.sl.some_ (by have:=HPL.out;omega);have HI8:=zh hI;obtain⟨B,hB⟩:∃B,B=N-16:=⟨_,rfl⟩
  have HB:=zh (show B+16=N/\B=N-16 by have:=HPL.out;omega);have hB1:(N:Int)-16=(B:Int):=by have:=HPL.out;omega
  have hB0:(0:Int)<=(B:Int):=by omega
  have hB2:(B:Int)<=1000016:=by have:=HPL.out;have:=HN.out;omega
  have hN2:(N:Int)<=1000032:=by have:=HPL.out;have:=HN.out;omega
  rw[<-hB]at HMN;rw[<-HM0.out]at HI8;clear hI hmb hB HI F3 ht hn1 HR HPX HP1 HP0 HPN HPQ HRR;go_wp2;go_loopw [9] (fun v9 wr=>∃i:Nat,v9=.int .i64 i/\i<=16/\RSumI w kb kc kk KY ZB KS wr (some ⟨mb,mo,none⟩) N c8 (MS i)) (fun v9 _=>16-(intOf v9).toNat)
  case atStart=>exact⟨0,rfl,by omega,HI8.out⟩
  case round=>
   clear HI8;obtain⟨i,rfl,hi16,hI⟩:=hrel;have HI9:=zh hI;clear hI;have hi1:(0:Int)<=(i:Int):=by omega
   by_cases hlt:i < 16
   ·have hi2:(i:Int) < 16:=by omega
    obtain⟨q,hq⟩:∃q,q=B+i:=⟨_,rfl⟩
    have hq1:(B:Int)+(i:Int)=(q:Int):=by omega
    have hqN:q < N:=by have:=HB.out;omega
    have hq2:(q:Int) < (N:Int):=by omega
    have hq3:(0:Int)<=(q:Int):=by omega
    have cM:wr.cell? ⟨mb,mo+q,none⟩=some (.int .u8 ((msgI key z n i q:Nat):Int)):=(HI9.out.sl.cell (j:=q) rfl (by omega)).trans (HMA.out i q hqN);have fM:=HI9.out.sl.frozen rfl (mo+q);have cK:wr.cell? ⟨kk,i,none⟩=some (.int .u8 ((kSel key n i:Nat):Int)):=(HI9.out.ks.cell i).trans (HKSA.out i hlt);have hx:=bx (msgI key z n i q) (kSel key n i) _ (HMI.out i (by omega) q) (HKSL.out i hlt) rfl;have HSk:=zh (show(MS i).set q (.int .u8 ((msgI key z n i q ^^^ kSel key n i:Nat):Int))=MS (i+1) by rw[hq];exact HMN.out i hlt);generalize msgI key z n i q ^^^ kSel key n i=v at hx HSk;generalize msgI key z n i q=x at cM hx;generalize kSel key n i=y at cK hx;have HQ:=zh (And.intro hq hqN);clear hq hqN hlt;go_upto_region 12 with (fail)
    go_region;go_wp2;go_roundw
    case rel=>
     have h9:=HI9.out;have hkp:KeepF (fun b=>b=mb) wr (wr.setCell ⟨mb,mo+q,none⟩ (.int .u8 (v:Int))).drew:=((KeepF.refl (F:=fun b=>b=mb) (w:=wr)).setCell (p:=⟨mb,mo+q,none⟩) rfl _).drew;have hmb:=h9.ad _ rfl;simp only at hmb;refine⟨i+1,by go_num,by omega,⟨?_,h9.ad,hkp.blk h9.ks (fun e=>hmb.2 e.symm),hkp.blk h9.ky (by have:=HKK.out;omega),hkp.blk h9.zb (by have:=HKK.out;omega),KeepF.below h9.lo hkp (fun b e=>by have:=HKK.out;omega) h9.lo.size⟩⟩;rw[<-HSk.out]
     exact(h9.sl.setOne q (by have:=HQ.out;omega) _).next ((Below.refl _ _).drew)
    case measure=>simp[intOf];omega
   ·have hi2:¬(i:Int) < 16:=by omega
    have hie:i=16:=by omega
    have HIE:=zh hie;rw[show MS i=MS 16 by rw[hie]]at HI9;clear hlt hi16 hie;go_upto_region 14 with (fail)
    obtain⟨sb,hsb⟩:∃sb,sb=wr.heap.size:=⟨_,rfl⟩
    have hsb2:kk < sb/\mb < sb:=by have h9:=HI9.out;have h1:=h9.ks.lt;have h2:=h9.sl.lt rfl;simp only at h2;omega
    have HSB2:=zh hsb2;refine wp_let (fun V=>Blk V sb 23 (S 0)/\RSumI w kb kc kk KY ZB KS V (some ⟨mb,mo,none⟩) N c8 (MS 16)) ⟨by rw[hsb,HS0.out];exact Blk.new _ _ _,HI9.out.keep (bnA _)⟩ ?_;rintro W9 ⟨b1,b2⟩;have C1:=zh b1;have C2:=zh b2;rw[<-hsb];clear b1 b2 hsb hsb2 HI9 HS0;go_wp2;go_loopw [11,12] (fun v11 v12 wr=>∃q:Nat,v11=.int .i64 ((16*q:Nat):Int)/\q<=M/\Blk wr sb 23 (S q)/\RSumI w kb kc kk KY ZB KS wr (some ⟨mb,mo,none⟩) N c8 (MS 16)) (fun v11 _ _=>N-(intOf v11).toNat)
    case atStart=>exact⟨0,rfl,by omega,C1.out,C2.out⟩
    case round=>
     clear C1 C2;obtain⟨q,rfl,hqM,hSB,hI⟩:=hrel;have HSBq:=zh hSB;have HI10:=zh hI;clear hSB hI;obtain⟨at_,hat⟩:∃a,a=16*q:=⟨_,rfl⟩
     rw[<-hat];have HAT:=zh hat;have ha0:(0:Int)<=(at_:Int):=by omega
     have ha9:(at_:Int)<=1000032:=by have:=HPL.out;omega
     by_cases hlt:q < M
     ·have ha1:(at_:Int) < (N:Int):=by have:=HPL.out;omega
      have ha2:at_+16<=N:=by have:=HPL.out;omega
      have HLT:=zh (And.intro hlt ha2);clear hlt ha2 hat hqM;go_wp2;go_loopw [12] (fun v12 wr=>∃i:Nat,v12=.int .i64 i/\i<=16/\Blk wr sb 23 (X q i)/\RSumI w kb kc kk KY ZB KS wr (some ⟨mb,mo,none⟩) N c8 (MS 16)) (fun v12 _=>16-(intOf v12).toNat)
      case atStart=>exact⟨0,rfl,by omega,by rw[<-HX0.out];exact HSBq.out,HI10.out⟩
      case round=>
       clear HSBq HI10;obtain⟨i,rfl,hi16,hSB,hI⟩:=hrel;have HSBi:=zh hSB;have HI11:=zh hI;clear hSB hI;have hi1:(0:Int)<=(i:Int):=by omega
       by_cases hlt2:i < 16
       ·have hi2:(i:Int) < 16:=by omega
        obtain⟨u,hu⟩:∃u,u=at_+i:=⟨_,rfl⟩
        have hu1:(at_:Int)+(i:Int)=(u:Int):=by omega
        have huN:u < N:=by have:=HLT.out;omega
        have hu2:(u:Int) < (N:Int):=by omega
        have hu3:(0:Int)<=(u:Int):=by omega
        have cM:wr.cell? ⟨mb,mo+u,none⟩=some (.int .u8 ((macB key z n q i:Nat):Int)):=(HI11.out.sl.cell (j:=u) rfl (by omega)).trans ((HMA.out 16 u huN).trans (by rw[hu,HAT.out,HMK.out q i HLT.out.1 hlt2]));have cS:wr.cell? ⟨sb,i,none⟩=some (.int .u8 ((macS key z n q i:Nat):Int)):=(HSBi.out.cell i).trans ((HXA.out q i i hlt2).trans (by unfold xorK;rw[if_neg (by omega)]));have fS:=HSBi.out.frozen i;have hx:=bx (macS key z n q i) (macB key z n q i) _ (HMS.out q i hlt2) (HMB.out q i hlt2) rfl;have HSk:=zh (HXS.out q i hlt2);generalize macS key z n q i ^^^ macB key z n q i=v at hx HSk;generalize macS key z n q i=x at cS hx;generalize macB key z n q i=y at cM hx;have HU:=zh (And.intro hu huN);clear hu huN hlt2;go_upto_region 20 with (fail)
        go_region;go_wp2;go_roundw
        case rel=>
         have h9:=HI11.out;have hkp:KeepF (fun b=>b=sb) wr (wr.setCell ⟨sb,i,none⟩ (.int .u8 (v:Int))).drew:=((KeepF.refl (F:=fun b=>b=sb) (w:=wr)).setCell (p:=⟨sb,i,none⟩) rfl _).drew;refine⟨i+1,by go_num,by omega,by rw[<-HSk.out];exact(HSBi.out.set_ i _).drew,⟨h9.sl.keepF hkp (fun a ha e=>by cases ha;have:=HSB2.out;simp only at e;omega),h9.ad,hkp.blk h9.ks (by have:=HSB2.out;omega),hkp.blk h9.ky (by have:=HKK.out;have:=HSB2.out;omega),hkp.blk h9.zb (by have:=HKK.out;have:=HSB2.out;omega),KeepF.below h9.lo hkp (fun b e=>by have:=HKK.out;have:=HSB2.out;omega) h9.lo.size⟩⟩
        case measure=>simp[intOf];omega
       ·have hi2:¬(i:Int) < 16:=by omega
        have hie:i=16:=by omega
        have HIE:=zh hie;rw[show X q i=X q 16 by rw[hie]]at HSBi;have HX16:=zh (HSX.out q);have HSN1:=zh (HSS.out (q+1));have HEN3:=zh (fun V=>HEN2.out q V);have HXZ1:=zh (HXZ.out q 16);obtain⟨XX,hXX⟩:∃XX,XX=X q 16:=⟨_,rfl⟩
        obtain⟨SS,hSS⟩:∃SS,SS=S (q+1):=⟨_,rfl⟩
        rw[<-hXX]at HSBi HX16 HEN3 HXZ1;rw[<-hSS]at HSN1 HEN3;have HSSE:=zh hSS;clear hlt2 hi16 hie hXX hSS;go_wp2_with (first
         | (refine wpList_load_row rfl _ _ rfl kb rfl 23 KY (0,0) _ HI11.out.ky Tryz.underlying23 rfl HSK.out ?_)
         | (refine wpList_load_row rfl _ _ rfl sb rfl 23 XX (0,0) _ HSBi.out Tryz.underlying23 rfl HX16.out ?_)
         | (go_at_call 69;with_reducible refine(HEN3.out _).mono ?_;rintro e wE ⟨rfl,hB⟩;have HIE2:=zh (HI11.out.keep hB);have HSE:=zh (HSBi.out.below hB HSBi.out.lt);clear hB)
         | (refine wpList_store_row rfl _ _ _ rfl sb SS rfl rfl 23 XX HSE.out HSN1.out.1 (by rw[HXZ1.out,HSN1.out.2.1]) HSN1.out.2.2 ?_))
        go_roundw
        case rel=>
         have h9:=HIE2.out;have hkp:KeepF (fun b=>b=sb) wE (wE.setRow sb SS):=(KeepF.refl (F:=fun b=>b=sb) (w:=wE)).setRow rfl _;refine⟨q+1,?_,HLT.out.1,by rw[<-HSSE.out];exact Blk.setRow HSE.out,⟨h9.sl.keepF hkp (fun a ha e=>by cases ha;have:=HSB2.out;simp only at e;omega),h9.ad,hkp.blk h9.ks (by have:=HSB2.out;omega),hkp.blk h9.ky (by have:=HKK.out;have:=HSB2.out;omega),hkp.blk h9.zb (by have:=HKK.out;have:=HSB2.out;omega),KeepF.below h9.lo hkp (fun b e=>by have:=HKK.out;have:=HSB2.out;omega) h9.lo.size⟩⟩;rw[show(16*(q+1):Nat)=at_+16 by rw[HAT.out];omega];go_num
        case measure=>have:=HLT.out;simp[intOf];omega
     ·have ha1:¬(at_:Int) < (N:Int):=by have:=HPL.out;omega
      have hqe:q=M:=by omega
      have HQE:=zh hqe;have HSM:=zh (HSS.out M);rw[show S q=S M by rw[hqe]]at HSBq;obtain⟨SF,hSF⟩:∃SF,SF=S M:=⟨_,rfl⟩
      rw[<-hSF]at HSBq HSM;have HSFE:=zh hSF;clear hlt hqM hqe hSF hat;go_wp2_with (first
       | (refine wpList_load_row rfl _ _ rfl sb rfl 23 SF (0,0) _ HSBq.out Tryz.underlying23 rfl HSM.out.1 ?_)
       | (refine wpList_store_row rfl _ _ _ rfl (kb+1) SF rfl rfl 23 ZB HI10.out.zb HSM.out.1 (by rw[HZBS.out,HSM.out.2.1]) HSM.out.2.2 ?_))
      refine bodyPost_ret (v:=.agg SF) (results_cell_row (g:=kb+1) (t:=23) (fr:=(0,0)) Tryz.results68 _ _ SF _ rfl (setRow_heap wr (kb+1) ZB SF 23 (0,0) HI10.out.zb) Tryz.underlying23 rfl HSM.out.1) rfl ⟨by rw[HSFE.out],?_⟩
      exact belowRow HI10.out.lo (by have:=HKK.out;omega) _
def fnL (f:Nat->Nat) (n:Nat):List Value:=(List.range n).map fun j=>.int .u8 ((f j:Nat):Int)
theorem fnL_len (f:Nat->Nat) (n:Nat):(fnL f n).length=n:=by simp[fnL]
theorem fnL_at (f:Nat->Nat) {n j:Nat} (hj:j < n):(fnL f n)[j]? = some (.int .u8 ((f j:Nat):Int)):=by
 unfold fnL;rw[List.getElem?_map,List.getElem?_range hj]
 rfl
theorem fnL_one {f:Nat->Nat} {n:Nat} {u:Value} (h:u∈fnL f n):u.oneCell'=true:=by
 obtain⟨j,_,rfl⟩:=List.mem_map.1 h
 rfl
theorem fnL_cat (f z:Nat->Nat) (m n:Nat):fnL f m++fnL z n=fnL (catF f m z) (m+n):=by
 apply List.ext_getElem?;intro j;by_cases hj:j < m
 ·rw[List.getElem?_append_left (by rw[fnL_len];exact hj),fnL_at f hj,fnL_at _ (by omega)];unfold catF;rw[if_pos hj]
 ·rw[List.getElem?_append_right (by rw[fnL_len];omega),fnL_len];by_cases h2:j < m+n
  ·rw[fnL_at z (by omega),fnL_at _ h2];unfold catF;rw[if_neg hj]
  ·rw[List.getElem?_eq_none (by rw[fnL_len];omega),List.getElem?_eq_none (by rw[fnL_len];omega)]
theorem src_row {V:World} {A:Option Addr} {n c:Nat} {z:Nat->Nat} (hn:0 < n) (h:Row V V.heap.size A n (fun j=>.int .u8 ((z j:Nat):Int))):Src Tryz.prog 1 35 (.slice A n c) n (fnL z n) V:=by
 obtain⟨b,o,rfl,hb,hc⟩:=h hn
 exact Src.ofSlice _ Tryz.underlying35 ⟨b,o,none⟩ n c _ (by rw[fnL_len,Nat.mul_one]) (fun j u hu=>by
  have hj:j < n:=by have:=(List.getElem?_eq_some_iff.1 hu).1;rwa [fnL_len]at this
  rw[Addr.add_lit,hc j hj,<-hu,fnL_at z hj]) (fun u hu=>fnL_one hu)
theorem sl_rowF {V:World} {A:Option Addr} {n c:Nat} {f:Nat->Nat} (h:SL V 5 1 A n c (fnL f n)):Row V V.heap.size A n (fun j=>.int .u8 ((f j:Nat):Int)):=h.rowOf (fun j hj=>fnL_at f hj)
theorem code_four (s:Nat->Nat):((s 0*256+s 1)*256+s 2)*256+s 3=s 0*16777216+s 1*65536+s 2*256+s 3:=by omega
theorem rcode_ok (key:Nat->Nat) (ct b d:Nat) (hk:B16 key) (hc:ct < 4294967296) (hb:b < 32) (hd:d < 2) (A:Option Addr) (n c:Nat) (z:Nat->Nat) (hn1:1<=n) (hn9:n<=900000) (hz:∀j,j < n->z j < 256) (w:World) (hr:Row w w.heap.size A n (fun j=>.int .u8 ((z j:Nat):Int))) :
  Calls Tryz.prog 36 #[.agg (b16 key),.int .u32 ct,.int .i64 b,.int .i64 d,.slice A n c] w fun e w'=>e=.returned (.int .u32 ((codeF key ct b d z n:Nat):Int))/\Below w.heap.size w w':=by
 obtain⟨i0,hi0,hz0,hz1,hz2⟩:=info_parts Tryz.infoByte;have HBL:Hid (∀V:World,Calls Tryz.prog 67 #[.int .u32 ct,.int .i64 b,.int .i64 d,.int .u64 0] V fun e w'=>e=.returned (.agg (b16 (ctrB ct b d 0)))/\Below V.heap.size V w'):=zh (fun V=>rblock_ok ct b d 0 hc hb hd (by omega) V);obtain⟨ff,hff⟩:∃ff,ff=halfB (pfx ct b d):=⟨_,rfl⟩
 have HFF:Hid (∀j,ff j < 256):=zh (fun j=>by rw[hff];exact halfB_lt _ _);obtain⟨s,hs⟩:∃s,s=macF key (catF ff 8 z) (8+n):=⟨_,rfl⟩
 have HZC:Hid (∀j,j < 8+n->catF ff 8 z j < 256):=zh (catF_lt (fun j _=>HFF.out j) hz);have HS16:Hid (B16 s):=zh (by rw[hs];exact macF_lt hk HZC.out);have HCO:Hid (codeF key ct b d z n=((s 0*256+s 1)*256+s 2)*256+s 3):=zh (by rw[code_four,hs,hff];rfl);have HSUM:=zh (fun A2 c2 V (h2:Row V V.heap.size A2 (8+n) (fun j=>.int .u8 ((catF ff 8 z j:Nat):Int)))=>rsum_ok key hk A2 (8+n) c2 (catF ff 8 z) (by omega) (by omega) HZC.out V h2);rw[<-hs]at HSUM;obtain⟨PB,hPB⟩:∃PB,PB=b16 (ctrB ct b d 0):=⟨_,rfl⟩
 rw[<-hPB]at HBL;have HPA:Hid (∀j,j < 8->PB[j]? = some (.int .u8 ((ff j:Nat):Int))):=zh (fun j hj=>by
  rw[hPB,b16_at _ (by omega),hff];unfold ctrB;rw[if_pos hj])
 have HSP:Hid ((Tryz.prog.info? 23).map (·.size)=some PB.size):=zh (by rw[hPB];exact size16 _);have HOP:Hid (PB.all (·.oneCell')=true):=zh (by rw[hPB];exact b16_one _);have HZP:Hid ((#[.int .u8 0,.int .u8 0,.int .u8 0,.int .u8 0,.int .u8 0,.int .u8 0,.int .u8 0,.int .u8 0,.int .u8 0,.int .u8 0,.int .u8 0,.int .u8 0,.int .u8 0,.int .u8 0,.int .u8 0,.int .u8 0]:Array Value).size=PB.size):=zh (by rw[hPB,b16_size];rfl);have HPZ:Hid (PB.size=16):=zh (by rw[hPB,b16_size]);obtain⟨KY,hKY⟩:∃KY,KY=b16 key:=⟨_,rfl⟩
 have HSK:Hid ((Tryz.prog.info? 23).map (·.size)=some KY.toList.length):=zh (by rw[Array.length_toList,hKY];exact size16 _);have HUK:=zh Tryz.underlying23;rw[<-hKY]at HSUM;rw[<-hKY,HCO.out];obtain⟨SB,hSB⟩:∃SB,SB=b16 s:=⟨_,rfl⟩
 rw[<-hSB]at HSUM;have HSA:Hid (∀j,j < 16->SB[j]? = some (.int .u8 ((s j:Nat):Int))):=zh (by rw[hSB];exact fun j hj=>b16_at _ hj);have HSS:Hid ((Tryz.prog.info? 23).map (·.size)=some SB.size):=zh (by rw[hSB];exact size16 _);have HSO:Hid (SB.all (·.oneCell')=true):=zh (by rw[hSB];exact b16_one _);have HSZ:Hid ((#[.int .u8 0,.int .u8 0,.int .u8 0,.int .u8 0,.int .u8 0,.int .u8 0,.int .u8 0,.int .u8 0,.int .u8 0,.int .u8 0,.int .u8 0,.int .u8 0,.int .u8 0,.int .u8 0,.int .u8 0,.int .u8 0]:Array Value).size=SB.size):=zh (by rw[hSB,b16_size];rfl);have HSUM2:Hid (∀A2 c2 V,Row V V.heap.size A2 (8+n) (fun j=>.int .u8 ((catF ff 8 z j:Nat):Int))->Calls Tryz.prog 68 #[.agg KY.toList.toArray,.slice A2 (8+n) c2] V fun e w'=>e=.returned (.agg SB)/\Below V.heap.size V w'):=zh (by rw[Array.toArray_toList];exact HSUM.out);have HR:=zh hr;have HN:=zh (And.intro hn1 hn9);clear hk hc hb hd hz hr hs hff hPB hKY hSB hn1 hn9 HSUM;go_enter Tryz.func36,Tryz.ntmps36;go_upto_region 1 with (fail)
 obtain⟨kb,hkb⟩:∃kb,kb=w.heap.size:=⟨_,rfl⟩
 refine wp_let (fun V=>Blk V kb 23 KY/\Below w.heap.size w V) ⟨by rw[hkb];exact Blk.new _ _ _,bnA _⟩ ?_;rintro W1 ⟨b1,b2⟩;have B1:=zh b1;have B2:=zh b2;rw[<-hkb];clear b1 b2 hkb;go_upto_region 2 with (first
  | (go_at_call 67;with_reducible refine(HBL.out _).mono ?_;rintro e w2 ⟨rfl,hB⟩;have E2:=zh hB;clear hB)
  | (refine wpList_store_row rfl _ _ _ rfl w2.heap.size PB rfl rfl 23 _ (Blk.new w2 _ _) HSP.out HZP.out HOP.out ?_))
 obtain⟨pb,hpb⟩:∃pb,pb=w2.heap.size:=⟨_,rfl⟩
 refine wp_let (fun V=>Blk V pb 23 PB/\Below W1.heap.size W1 V) ⟨by rw[hpb];exact Blk.setRow (Blk.new w2 _ _),belowRow (E2.out.alloc E2.out.size _) E2.out.size _⟩ ?_;rintro W2 ⟨b1,b2⟩;have C1:=zh b1;have C2:=zh (B1.out.below b2 B1.out.lt);have C3:=zh (B2.out.trans (b2.mono B2.out.size));rw[<-hpb];clear b1 b2 hpb B1 B2 E2;have HKR:=zh (fun(W':World) (hb:Below W2.heap.size W2 W')=>Blk.range (C2.out.below hb C2.out.lt) KY.toList (by rw[Array.toArray_toList]));have HP8:=zh (fun(W':World) (hb:Below W2.heap.size W2 W')=>src_row (A:=some ⟨pb,0,none⟩) (c:=16) (n:=8) (z:=ff) (V:=W') (by decide) (fun _=>⟨pb,0,rfl,Nat.lt_of_lt_of_le C1.out.lt hb.size,fun j hj=>by rw[Nat.zero_add];exact((C1.out.below hb C1.out.lt).cell j).trans (HPA.out j hj)⟩));have HSRC:=zh (fun(W':World) (hb:Below W2.heap.size W2 W')=>src_row (c:=c) (by have:=HN.out;omega) ((HR.out.next C3.out).next hb));have HCAT:=zh (fnL_cat ff z 8 n)
 try simp only[Act.put]
 go_cut [12]from 17 to 22 (fun v12 wx=>∃g,v12=.pointer (some ⟨g,0,none⟩)/\Blk wx g 23 SB/\Below W2.heap.size W2 wx)
 case first=>
  obtain⟨w0,hw0⟩:∃w0,w0=W2.drew:=⟨_,rfl⟩
  refine wp_region_held_drew (S:=fun w'=>Below W2.heap.size W2 w') (by kernel_rfl) ((Below.refl _ W2).drew) (fun hHeld=>?_);rw[<-hw0];rw[<-hw0]at hHeld;clear hw0;refine' wpAnyH_take (i:=0) (oi:=⟨some 17,_,_,_,_,_⟩) (v:=_) rfl (by kernel_rfl) (by kernel_rfl) (by kernel_rfl) (fun _ _ _ h=>h) (yieldsIf_load_mid (by rfl) _ _ rfl kb 0 rfl KY.toList _ (fun w h=>HKR.out w h) HUK.out rfl HSK.out) (by assumption) ?_
  try simp only[Act.put,qa,qb,qc]
  refine wpAnyH_take (i:=1) (oi:=⟨some 18,_,_,_,_,_⟩) (v:=.slice (some ⟨pb,0,none⟩) 8 16) rfl (by kernel_rfl) (by kernel_rfl) (by kernel_rfl) (fun _ _ _ h=>h) (Or.inl ⟨by rfl,fun W hW=>(by go_simp)⟩) (by assumption) ?_
  try simp only[Act.put,qa,qb,qc]
  refine wpAnyH_take (i:=3) (oi:=⟨some 20,_,_,_,_,_⟩) (v:=.slice A n c) rfl (by kernel_rfl) (by kernel_rfl) (by kernel_rfl) (fun _ _ _ h=>h) (Or.inl ⟨by rfl,fun W hW=>(by rfl)⟩) (by assumption) ?_
  try simp only[Act.put,qa,qb,qc]
  refine wpAnyH_ready (rs:=[2,6]) (by kernel_rfl) (by simp) ?_;refine AllReadyH.cons (o:=⟨some 19,_,_,_,_,_⟩) rfl (fun K hK=>?_) (AllReadyH.cons (o:=⟨some 12,_,_,_,_,_⟩) rfl (fun K hK=>?_) AllReadyH.nil)
  ·skip;rw[if_pos (by rfl)];refine wp_sl_append _ _ 35 35 rfl w0 5 i0 (.int .u8 0) 1 1 Tryz.underlying35 hi0 hz0 hz1 hz2 rfl none 0 0 [] rfl (SL.nil _ _ _) (.slice (some ⟨pb,0,none⟩) 8 16) rfl 8 (fnL ff 8) (HP8.out _ hHeld) (by omega) (by unfold maxLen;omega) (by omega) (fun A1 c1 v1 hs1 hk1 ha1=>?_);rw[List.nil_append,Nat.zero_add]at hs1;rw[Nat.zero_add];have hE:Below w0.heap.size w0 v1:=KeepF.below (Below.refl _ _) hk1 (fun k ⟨a,ha,_⟩=>by cases ha) (Nat.le_refl _);have hL:=hs1;have hLA:∀a,A1=some a->W2.heap.size<=a.block:=fun a ha=>by
    rcases ha1 a ha with ⟨a',h1,_⟩ | h2
    ·cases h1
    ·have:=hHeld.size;omega
   have hE2:=hHeld.trans (hE.mono hHeld.size);refine hK.out _ _ hE2 (fun hHeld=>?_);clear hK K hE hs1 hk1 ha1
   try simp only[Act.put,qa,qb,qc]
   refine wpAnyH_ready (rs:=[4,6]) (by kernel_rfl) (by simp) ?_;refine AllReadyH.cons (o:=⟨some 21,_,_,_,_,_⟩) rfl (fun K hK=>?_) (AllReadyH.cons (o:=⟨some 12,_,_,_,_,_⟩) rfl (fun K hK=>?_) AllReadyH.nil)
   ·skip;rw[if_pos (by rfl)];refine wp_sl_append _ _ 35 35 rfl v1 5 i0 (.int .u8 0) 1 1 Tryz.underlying35 hi0 hz0 hz1 hz2 rfl A1 8 c1 (fnL ff 8) rfl hL (.slice A n c) rfl n (fnL z n) (HSRC.out _ hHeld) (by have:=HN.out;omega) (by have:=HN.out;unfold maxLen;omega) (by have:=HN.out;omega) (fun A2 c2 v2 hs1 hk1 ha1=>?_);rw[HCAT.out]at hs1;have hL2:=hs1;have hE2:Below W2.heap.size W2 v2:=KeepF.below hHeld hk1 (fun k ⟨a,ha,e⟩=>by have:=hLA a ha;omega) hHeld.size;have hL:=hL2;refine hK.out _ _ hE2 (fun hHeld=>?_);clear hK K hs1 hk1 ha1 hL2 hLA
    try simp only[Act.put,qa,qb,qc]
    refine wpAnyH_ready (rs:=[5,6]) (by kernel_rfl) (by simp) ?_;refine AllReadyH.cons (o:=⟨some 22,_,_,_,_,_⟩) rfl (fun K hK=>?_) (AllReadyH.cons (o:=⟨some 12,_,_,_,_,_⟩) rfl (fun K hK=>?_) AllReadyH.nil)
    ·skip;rw[if_pos (by rfl)];go_simp;refine(HSUM2.out A2 c2 _ (sl_rowF hL)).mono ?_;rintro e v3 ⟨rfl,hB⟩;dsimp only;have hE2:=hHeld.trans (hB.mono hHeld.size);refine hK.out _ _ hE2 (fun hHeld=>?_);clear hK K hB hL
     try simp only[Act.put,qa,qb,qc]
     refine rdH (i:=6) (x:=some 12) rfl fun K hK=>?_;go_simp;obtain⟨v4,hv⟩:∃X,X=v3.alloc (.cells #[.int .u8 0,.int .u8 0,.int .u8 0,.int .u8 0,.int .u8 0,.int .u8 0,.int .u8 0,.int .u8 0,.int .u8 0,.int .u8 0,.int .u8 0,.int .u8 0,.int .u8 0,.int .u8 0,.int .u8 0,.int .u8 0] 23):=⟨_,rfl⟩
     obtain⟨gb,hgbe⟩:∃gb,gb=v3.heap.size:=⟨_,rfl⟩
     have hGB:Blk v4 gb 23 #[.int .u8 0,.int .u8 0,.int .u8 0,.int .u8 0,.int .u8 0,.int .u8 0,.int .u8 0,.int .u8 0,.int .u8 0,.int .u8 0,.int .u8 0,.int .u8 0,.int .u8 0,.int .u8 0,.int .u8 0,.int .u8 0]:=by rw[hv,hgbe];exact Blk.new _ _ _
     have hgb:W2.heap.size<=gb:=by rw[hgbe];exact hHeld.size
     have hE:Below v3.heap.size v3 v4:=by rw[hv];exact bnA _
     rw[<-hv,<-hgbe];have hE2:=hHeld.trans (hE.mono hHeld.size);refine hK.out _ _ hE2 (fun hHeld=>?_);clear hK K hE hv hgbe
     try simp only[Act.put,qa,qb,qc]
     refine rdH (i:=7) (x:=none) rfl fun K hK=>?_;refine wp_store_row _ _ _ rfl gb SB rfl rfl 23 #[.int .u8 0,.int .u8 0,.int .u8 0,.int .u8 0,.int .u8 0,.int .u8 0,.int .u8 0,.int .u8 0,.int .u8 0,.int .u8 0,.int .u8 0,.int .u8 0,.int .u8 0,.int .u8 0,.int .u8 0,.int .u8 0] hGB HSS.out HSZ.out HSO.out ?_;have hE9:=belowRow hHeld hgb SB;refine hK.out _ _ hE9 (fun hHeld=>?_);clear hK K
     try simp only[Act.put]
     refine wpAnyH_done (by kernel_rfl) ?_ _;go_wp2;go_meet
     case rel=>exact⟨gb,rfl,Blk.setRow hGB,hE9⟩
    ·skip;rw[if_pos (by rfl)];go_simp;obtain⟨v5,hv⟩:∃X,X=v2.alloc (.cells #[.int .u8 0,.int .u8 0,.int .u8 0,.int .u8 0,.int .u8 0,.int .u8 0,.int .u8 0,.int .u8 0,.int .u8 0,.int .u8 0,.int .u8 0,.int .u8 0,.int .u8 0,.int .u8 0,.int .u8 0,.int .u8 0] 23):=⟨_,rfl⟩
     obtain⟨gb,hgbe⟩:∃gb,gb=v2.heap.size:=⟨_,rfl⟩
     have hGB:Blk v5 gb 23 #[.int .u8 0,.int .u8 0,.int .u8 0,.int .u8 0,.int .u8 0,.int .u8 0,.int .u8 0,.int .u8 0,.int .u8 0,.int .u8 0,.int .u8 0,.int .u8 0,.int .u8 0,.int .u8 0,.int .u8 0,.int .u8 0]:=by rw[hv,hgbe];exact Blk.new _ _ _
     have hgb:W2.heap.size<=gb:=by rw[hgbe];exact hHeld.size
     have hE:Below v2.heap.size v2 v5:=by rw[hv];exact bnA _
     rw[<-hv,<-hgbe];have hL:=hL.next hE;have hE2:=hHeld.trans (hE.mono hHeld.size);refine hK.out _ _ hE2 (fun hHeld=>?_);clear hK K hE hv hgbe
     try simp only[Act.put,qa,qb,qc]
     refine rdH (i:=5) (x:=some 22) rfl fun K hK=>?_;go_simp;refine(HSUM2.out A2 c2 _ (sl_rowF hL)).mono ?_;rintro e v6 ⟨rfl,hB⟩;dsimp only;have hGB:=hGB.below hB hGB.lt;have hE2:=hHeld.trans (hB.mono hHeld.size);refine hK.out _ _ hE2 (fun hHeld=>?_);clear hK K hB hL
     try simp only[Act.put,qa,qb,qc]
     refine rdH (i:=7) (x:=none) rfl fun K hK=>?_;refine wp_store_row _ _ _ rfl gb SB rfl rfl 23 #[.int .u8 0,.int .u8 0,.int .u8 0,.int .u8 0,.int .u8 0,.int .u8 0,.int .u8 0,.int .u8 0,.int .u8 0,.int .u8 0,.int .u8 0,.int .u8 0,.int .u8 0,.int .u8 0,.int .u8 0,.int .u8 0] hGB HSS.out HSZ.out HSO.out ?_;have hE9:=belowRow hHeld hgb SB;refine hK.out _ _ hE9 (fun hHeld=>?_);clear hK K
     try simp only[Act.put]
     refine wpAnyH_done (by kernel_rfl) ?_ _;go_wp2;go_meet
     case rel=>exact⟨gb,rfl,Blk.setRow hGB,hE9⟩
   ·skip;rw[if_pos (by rfl)];go_simp;obtain⟨v7,hv⟩:∃X,X=v1.alloc (.cells #[.int .u8 0,.int .u8 0,.int .u8 0,.int .u8 0,.int .u8 0,.int .u8 0,.int .u8 0,.int .u8 0,.int .u8 0,.int .u8 0,.int .u8 0,.int .u8 0,.int .u8 0,.int .u8 0,.int .u8 0,.int .u8 0] 23):=⟨_,rfl⟩
    obtain⟨gb,hgbe⟩:∃gb,gb=v1.heap.size:=⟨_,rfl⟩
    have hGB:Blk v7 gb 23 #[.int .u8 0,.int .u8 0,.int .u8 0,.int .u8 0,.int .u8 0,.int .u8 0,.int .u8 0,.int .u8 0,.int .u8 0,.int .u8 0,.int .u8 0,.int .u8 0,.int .u8 0,.int .u8 0,.int .u8 0,.int .u8 0]:=by rw[hv,hgbe];exact Blk.new _ _ _
    have hgb:W2.heap.size<=gb:=by rw[hgbe];exact hHeld.size
    have hE:Below v1.heap.size v1 v7:=by rw[hv];exact bnA _
    rw[<-hv,<-hgbe];have hLA:∀a,A1=some a->W2.heap.size<=a.block/\a.block ≠ gb:=fun a ha=>⟨hLA a ha,by have:=hL.lt ha;omega⟩
    have hL:=hL.next hE;have hE2:=hHeld.trans (hE.mono hHeld.size);refine hK.out _ _ hE2 (fun hHeld=>?_);clear hK K hE hv hgbe
    try simp only[Act.put,qa,qb,qc]
    refine rdH (i:=4) (x:=some 21) rfl fun K hK=>?_;refine wp_sl_append _ _ 35 35 rfl v7 5 i0 (.int .u8 0) 1 1 Tryz.underlying35 hi0 hz0 hz1 hz2 rfl A1 8 c1 (fnL ff 8) rfl hL (.slice A n c) rfl n (fnL z n) (HSRC.out _ hHeld) (by have:=HN.out;omega) (by have:=HN.out;unfold maxLen;omega) (by have:=HN.out;omega) (fun A2 c2 v8 hs1 hk1 ha1=>?_);rw[HCAT.out]at hs1;have hL2:=hs1;have hGB:=hk1.blk hGB (fun⟨a,e1,e2⟩=>(hLA a e1).2 e2.symm);have hE2:Below W2.heap.size W2 v8:=KeepF.below hHeld hk1 (fun k ⟨a,ha,e⟩=>by have:=hLA a ha;omega) hHeld.size;have hL:=hL2;refine hK.out _ _ hE2 (fun hHeld=>?_);clear hK K hs1 hk1 ha1 hL2 hLA
    try simp only[Act.put,qa,qb,qc]
    refine rdH (i:=5) (x:=some 22) rfl fun K hK=>?_;go_simp;refine(HSUM2.out A2 c2 _ (sl_rowF hL)).mono ?_;rintro e v9 ⟨rfl,hB⟩;dsimp only;have hGB:=hGB.below hB hGB.lt;have hE2:=hHeld.trans (hB.mono hHeld.size);refine hK.out _ _ hE2 (fun hHeld=>?_);clear hK K hB hL
    try simp only[Act.put,qa,qb,qc]
    refine rdH (i:=7) (x:=none) rfl fun K hK=>?_;refine wp_store_row _ _ _ rfl gb SB rfl rfl 23 #[.int .u8 0,.int .u8 0,.int .u8 0,.int .u8 0,.int .u8 0,.int .u8 0,.int .u8 0,.int .u8 0,.int .u8 0,.int .u8 0,.int .u8 0,.int .u8 0,.int .u8 0,.int .u8 0,.int .u8 0,.int .u8 0] hGB HSS.out HSZ.out HSO.out ?_;have hE9:=belowRow hHeld hgb SB;refine hK.out _ _ hE9 (fun hHeld=>?_);clear hK K
    try simp only[Act.put]
    refine wpAnyH_done (by kernel_rfl) ?_ _;go_wp2;go_meet
    case rel=>exact⟨gb,rfl,Blk.setRow hGB,hE9⟩
  ·skip;rw[if_pos (by rfl)];go_simp;obtain⟨v10,hv⟩:∃X,X=w0.alloc (.cells #[.int .u8 0,.int .u8 0,.int .u8 0,.int .u8 0,.int .u8 0,.int .u8 0,.int .u8 0,.int .u8 0,.int .u8 0,.int .u8 0,.int .u8 0,.int .u8 0,.int .u8 0,.int .u8 0,.int .u8 0,.int .u8 0] 23):=⟨_,rfl⟩
   obtain⟨gb,hgbe⟩:∃gb,gb=w0.heap.size:=⟨_,rfl⟩
   have hGB:Blk v10 gb 23 #[.int .u8 0,.int .u8 0,.int .u8 0,.int .u8 0,.int .u8 0,.int .u8 0,.int .u8 0,.int .u8 0,.int .u8 0,.int .u8 0,.int .u8 0,.int .u8 0,.int .u8 0,.int .u8 0,.int .u8 0,.int .u8 0]:=by rw[hv,hgbe];exact Blk.new _ _ _
   have hgb:W2.heap.size<=gb:=by rw[hgbe];exact hHeld.size
   have hE:Below w0.heap.size w0 v10:=by rw[hv];exact bnA _
   rw[<-hv,<-hgbe];have hE2:=hHeld.trans (hE.mono hHeld.size);refine hK.out _ _ hE2 (fun hHeld=>?_);clear hK K hE hv hgbe
   try simp only[Act.put,qa,qb,qc]
   refine rdH (i:=2) (x:=some 19) rfl fun K hK=>?_;refine wp_sl_append _ _ 35 35 rfl v10 5 i0 (.int .u8 0) 1 1 Tryz.underlying35 hi0 hz0 hz1 hz2 rfl none 0 0 [] rfl (SL.nil _ _ _) (.slice (some ⟨pb,0,none⟩) 8 16) rfl 8 (fnL ff 8) (HP8.out _ hHeld) (by omega) (by unfold maxLen;omega) (by omega) (fun A1 c1 v11 hs1 hk1 ha1=>?_);rw[List.nil_append,Nat.zero_add]at hs1;rw[Nat.zero_add];have hE:Below v10.heap.size v10 v11:=KeepF.below (Below.refl _ _) hk1 (fun k ⟨a,ha,_⟩=>by cases ha) (Nat.le_refl _);have hL:=hs1;have hLA:∀a,A1=some a->W2.heap.size<=a.block/\a.block ≠ gb:=fun a ha=>by
    rcases ha1 a ha with ⟨a',h1,_⟩ | h2
    ·cases h1
    ·have:=hHeld.size;have:=hGB.lt;omega
   have hGB:=hGB.below hE hGB.lt;have hE2:=hHeld.trans (hE.mono hHeld.size);refine hK.out _ _ hE2 (fun hHeld=>?_);clear hK K hE hs1 hk1 ha1
   try simp only[Act.put,qa,qb,qc]
   refine rdH (i:=4) (x:=some 21) rfl fun K hK=>?_;refine wp_sl_append _ _ 35 35 rfl v11 5 i0 (.int .u8 0) 1 1 Tryz.underlying35 hi0 hz0 hz1 hz2 rfl A1 8 c1 (fnL ff 8) rfl hL (.slice A n c) rfl n (fnL z n) (HSRC.out _ hHeld) (by have:=HN.out;omega) (by have:=HN.out;unfold maxLen;omega) (by have:=HN.out;omega) (fun A2 c2 v12 hs1 hk1 ha1=>?_);rw[HCAT.out]at hs1;have hL2:=hs1;have hGB:=hk1.blk hGB (fun⟨a,e1,e2⟩=>(hLA a e1).2 e2.symm);have hE2:Below W2.heap.size W2 v12:=KeepF.below hHeld hk1 (fun k ⟨a,ha,e⟩=>by have:=hLA a ha;omega) hHeld.size;have hL:=hL2;refine hK.out _ _ hE2 (fun hHeld=>?_);clear hK K hs1 hk1 ha1 hL2 hLA
   try simp only[Act.put,qa,qb,qc]
   refine rdH (i:=5) (x:=some 22) rfl fun K hK=>?_;go_simp;refine(HSUM2.out A2 c2 _ (sl_rowF hL)).mono ?_;rintro e v13 ⟨rfl,hB⟩;dsimp only;have hGB:=hGB.below hB hGB.lt;have hE2:=hHeld.trans (hB.mono hHeld.size);refine hK.out _ _ hE2 (fun hHeld=>?_);clear hK K hB hL
   try simp only[Act.put,qa,qb,qc]
   refine rdH (i:=7) (x:=none) rfl fun K hK=>?_;refine wp_store_row _ _ _ rfl gb SB rfl rfl 23 #[.int .u8 0,.int .u8 0,.int .u8 0,.int .u8 0,.int .u8 0,.int .u8 0,.int .u8 0,.int .u8 0,.int .u8 0,.int .u8 0,.int .u8 0,.int .u8 0,.int .u8 0,.int .u8 0,.int .u8 0,.int .u8 0] hGB HSS.out HSZ.out HSO.out ?_;have hE9:=belowRow hHeld hgb SB;refine hK.out _ _ hE9 (fun hHeld=>?_);clear hK K
   try simp only[Act.put]
   refine wpAnyH_done (by kernel_rfl) ?_ _;go_wp2;go_meet
   case rel=>exact⟨gb,rfl,Blk.setRow hGB,hE9⟩
 case rest=>
  obtain⟨g,rfl,hG,hX⟩:=hcut;have y0:=(hG.cell 0).trans (HSA.out 0 (by decide));have y1:=(hG.cell 1).trans (HSA.out 1 (by decide));have y2:=(hG.cell 2).trans (HSA.out 2 (by decide));have y3:=(hG.cell 3).trans (HSA.out 3 (by decide));have HX:=zh (C3.out.trans (hX.mono C3.out.size));have b0:=HS16.out 0 (by decide);have b1:=HS16.out 1 (by decide);have b2:=HS16.out 2 (by decide);have b3:=HS16.out 3 (by decide);clear HCO;obtain⟨f0,hf0⟩:∃f,f=s 0:=⟨_,rfl⟩
  rw[<-hf0]at y0 b0;obtain⟨f1,hf1⟩:∃f,f=s 1:=⟨_,rfl⟩
  rw[<-hf1]at y1 b1;obtain⟨f2,hf2⟩:∃f,f=s 2:=⟨_,rfl⟩
  rw[<-hf2]at y2 b2;obtain⟨f3,hf3⟩:∃f,f=s 3:=⟨_,rfl⟩
  rw[<-hf3]at y3 b3;have o1:=four_a f0 f1 b0 b1;have o2:=four_b (f0*256+f1) f2 (by omega) b2;have o3:=four_c ((f0*256+f1)*256+f2) f3 (by omega) b3;have v0:IntKind.u32.wrap (f0:Int)=(f0:Int):=by simp[IntKind.wrap_u32];omega
  have v1:IntKind.u32.wrap (f1:Int)=(f1:Int):=by simp[IntKind.wrap_u32];omega
  have v2:IntKind.u32.wrap (f2:Int)=(f2:Int):=by simp[IntKind.wrap_u32];omega
  have v3:IntKind.u32.wrap (f3:Int)=(f3:Int):=by simp[IntKind.wrap_u32];omega
  have s0:IntKind.u32.wrap ((f0:Int)*16777216)=(f0:Int)*16777216:=by simp[IntKind.wrap_u32];omega
  have s1:IntKind.u32.wrap ((f1:Int)*65536)=(f1:Int)*65536:=by simp[IntKind.wrap_u32];omega
  have s2:IntKind.u32.wrap ((f2:Int)*256)=(f2:Int)*256:=by simp[IntKind.wrap_u32];omega
  have k0:(0:Int)<=(f0:Int):=by omega
  have k1:(f0:Int) < 256:=by omega
  have k2:(0:Int)<=(f1:Int):=by omega
  have k3:(f1:Int) < 256:=by omega
  have k4:(0:Int)<=(f2:Int):=by omega
  have k5:(f2:Int) < 256:=by omega
  have k6:(0:Int)<=(f3:Int):=by omega
  have k7:(f3:Int) < 256:=by omega
  obtain⟨x3,hx3⟩:∃x,x=((f0*256+f1)*256+f2)*256+f3:=⟨_,rfl⟩
  rw[<-hx3]at o3;have HX3:=zh (show x3=((s 0*256+s 1)*256+s 2)*256+s 3 by rw[hx3,hf0,hf1,hf2,hf3]);clear hx3 hf0 hf1 hf2 hf3;generalize (f0*256+f1)*256+f2=x2 at o2 o3;generalize f0*256+f1=x1 at o1 o2;clear hG hX;go_wp2;go_ret;refine⟨?_,HX.out⟩;show Ending.returned (.int .u32 (x3:Int))=_;rw[HX3.out]
end Go.Proofs.YtnadmdadcpemnaaGreat

import Derived.Test.YtjanmleoomoedaaGreatMGB
import Derived.Test.YtjanmleoomoedaaGreatRA
import Derived.Test.YtjanmleoomoedaaGreatMGG
import Derived.Test.YtjanmleoomoedaaGreatMGJ
import Derived.Test.YtjanmleoomoedaaGreatRD
import Derived.BigRegion
namespace Go.Proofs.YtjanmleoomoedaaGreat
open Go
set_option linter.unusedVariables false
private theorem zh {p:Prop} (h:p):Go.RowKit.Hid p:=h
def bitAt (b:Nat→Nat) (i:Nat):Nat:=if i < 128 then b (i / 8) / 2 ^ (7-i % 8) % 2 else 0
theorem bitAt_lt (b:Nat→Nat) (i:Nat):bitAt b i < 2:=by
 unfold bitAt
 split
 ·exact Nat.mod_lt _ (by decide)
 ·decide
def bitsK (b:Nat→Nat) (k:Nat):Nat→Nat:=fun j=>if j < k then bitAt b j else 0
def outS (b:Nat→Nat):Nat→Nat→Nat
 | 0=>fun _=>0
 | k+1=>upd (outS b k) (k / 8) (outS b k (k / 8) ||| bitAt b (k+1)*2 ^ (7-k % 8))
theorem outS_before (b:Nat→Nat) (j:Nat):∀k,k≤8*j→outS b k j=0
 | 0,_=>rfl
 | k+1,h=>by
  show upd _ _ _ j=0
  unfold upd
  rw[if_neg (by omega)]
  exact outS_before b j k (by omega)
theorem outS_behind (b:Nat→Nat) (j:Nat):∀k,outS b (8*j+8+k) j=outS b (8*j+8) j
 | 0=>rfl
 | k+1=>by
  show upd (outS b (8*j+8+k)) ((8*j+8+k) / 8) _ j=_
  unfold upd
  rw[if_neg (by omega)]
  exact outS_behind b j k
theorem outS_step (b:Nat→Nat) (j t:Nat) (ht:t < 8):outS b (8*j+t+1) j=outS b (8*j+t) j ||| bitAt b (8*j+t+1)*2 ^ (7-t):=by
 show upd _ _ _ j=_
 rw[show(8*j+t) / 8=j by omega,show(8*j+t) % 8=t by omega]
 unfold upd
 rw[if_pos rfl]
theorem outS_byte (b:Nat→Nat) (j:Nat):outS b (8*j+8) j=0 ||| bitAt b (8*j+1)*128 ||| bitAt b (8*j+2)*64 ||| bitAt b (8*j+3)*32 ||| bitAt b (8*j+4)*16 ||| bitAt b (8*j+5)*8 ||| bitAt b (8*j+6)*4 ||| bitAt b (8*j+7)*2 ||| bitAt b (8*j+8)*1:=by
 have e0:=outS_before b j (8*j+0) (by omega)
 have e1:=outS_step b j 0 (by decide)
 have e2:=outS_step b j 1 (by decide)
 have e3:=outS_step b j 2 (by decide)
 have e4:=outS_step b j 3 (by decide)
 have e5:=outS_step b j 4 (by decide)
 have e6:=outS_step b j 5 (by decide)
 have e7:=outS_step b j 6 (by decide)
 have e8:=outS_step b j 7 (by decide)
 rw[e0]at e1
 rw[e1]at e2;rw[e2]at e3;rw[e3]at e4;rw[e4]at e5;rw[e5]at e6;rw[e6]at e7;rw[e7]at e8
 exact e8
theorem byte_two:∀(x:Fin 256) (q:Fin 2),(0 ||| x.1 / 64 % 2*128 ||| x.1 / 32 % 2*64 ||| x.1 / 16 % 2*32 ||| x.1 / 8 % 2*16 ||| x.1 / 4 % 2*8 ||| x.1 / 2 % 2*4 ||| x.1 / 1 % 2*2 ||| q.1*1)=(x.1*2 % 256 ||| q.1):=by decide +kernel
theorem outS_all (b:Nat→Nat) (hb:B16 b) (j:Nat) (hj:j < 16):outS b 128 j=(b j*2 % 256 ||| (if j < 15 then b (j+1) / 128 else 0)):=by
 have e:=outS_behind b j (128-(8*j+8))
 rw[show 8*j+8+(128-(8*j+8))=128 by omega]at e
 rw[e,outS_byte]
 have hlow:∀t,1≤t→t < 8→bitAt b (8*j+t)=b j / 2 ^ (7-t) % 2:=fun t h1 h2=>by
  unfold bitAt
  rw[if_pos (by omega),show(8*j+t) / 8=j by omega,show(8*j+t) % 8=t by omega]
 have hx:=hb j hj
 have hq:bitAt b (8*j+8)=if j < 15 then b (j+1) / 128 else 0:=by
  unfold bitAt
  by_cases h:j < 15
  ·have:=hb (j+1) (by omega)
   rw[if_pos (by omega),if_pos h,show(8*j+8) / 8=j+1 by omega,show(8*j+8) % 8=0 by omega]
   omega
  ·rw[if_neg (by omega),if_neg h]
 have hq2:(if j < 15 then b (j+1) / 128 else 0) < 2:=by
  split
  ·have:=hb (j+1) (by omega);omega
  ·decide
 rw[hlow 1 (by decide) (by decide),hlow 2 (by decide) (by decide),hlow 3 (by decide) (by decide),hlow 4 (by decide) (by decide),hlow 5 (by decide) (by decide),hlow 6 (by decide) (by decide),hlow 7 (by decide) (by decide),hq]
 exact byte_two ⟨b j,hx⟩ ⟨_,hq2⟩
theorem dbl_set (b:Nat→Nat) (hb:B16 b) (h:bitAt b 0=1):∀j,j < 16→upd (outS b 128) 15 (outS b 128 15 ^^^ 135) j=dblB b j:=fun j hj=>by
 have h0:=hb 0 (by decide)
 have hd:b 0 / 128=1:=by
  have e:bitAt b 0=b 0 / 128 % 2:=rfl
  rw[e]at h
  omega
 unfold upd dblB
 by_cases e:j=15
 ·subst e
  rw[if_pos rfl,if_neg (by decide),outS_all b hb 15 (by decide),if_neg (by decide),Nat.or_zero,hd]
 ·rw[if_neg e,if_pos (by omega),outS_all b hb j hj,if_pos (by omega)]
theorem dbl_not (b:Nat→Nat) (hb:B16 b) (h:bitAt b 0=0):∀j,j < 16→outS b 128 j=dblB b j:=fun j hj=>by
 have h0:=hb 0 (by decide)
 have hd:b 0 / 128=0:=by
  have e:bitAt b 0=b 0 / 128 % 2:=rfl
  rw[e]at h
  omega
 unfold dblB
 rw[outS_all b hb j hj]
 by_cases e:j < 15
 ·rw[if_pos e,if_pos e]
 ·rw[if_neg e,if_neg e,hd,Nat.or_zero,Nat.zero_mul,Nat.zero_mod,Nat.xor_zero]
theorem outS_lt (b:Nat→Nat):∀k,k≤128→∀j,outS b k j < 256
 | 0,_=>fun j=>by show 0 < 256;decide
 | k+1,hk=>fun j=>by
  show upd _ _ _ j < 256
  unfold upd
  split
  ·refine Nat.or_lt_two_pow (n:=8) (outS_lt b k (by omega) _) ?_
   have h1:=bitAt_lt b (k+1)
   have h2:2 ^ (7-k % 8)≤2 ^ 7:=Nat.pow_le_pow_right (by decide) (by omega)
   have h3:bitAt b (k+1)*2 ^ (7-k % 8)≤1*2 ^ 7:=Nat.mul_le_mul (by omega) h2
   omega
  ·exact outS_lt b k (by omega) j
end Go.Proofs.YtjanmleoomoedaaGreat
namespace Go.Proofs.YtjanmleoomoedaaGreat
open Go
set_option linter.unusedVariables false
def padL (n:Nat):Nat:=16*nBlk n
def padF (z:Nat→Nat) (n:Nat):Nat→Nat:=fun j=>if j < n then z j else if j=n then 128 else 0
def kSel (key:Nat→Nat) (n:Nat):Nat→Nat:=if n=0∨n % 16 ≠ 0 then key2 key else key1 key
def msgI (key z:Nat→Nat) (n i:Nat):Nat→Nat:=fun j=>if padL n-16≤j∧j < padL n-16+i then padF z n j ^^^ kSel key n (j-(padL n-16)) else padF z n j
theorem padL_ge (n:Nat):n≤padL n∧16≤padL n∧padL n≤n+16:=by unfold padL nBlk;split<;>omega
theorem padL_same {n:Nat} (h:¬(n=0∨n % 16 ≠ 0)):padL n=n:=by unfold padL nBlk;rw[if_neg (by omega)];omega
theorem padL_mod (n:Nat):padL n % 16=0:=by unfold padL;omega
theorem padL_next {n j:Nat} (h1:n < j) (h2:j≤padL n) (h3:j % 16=0):j=padL n:=by revert h2;unfold padL nBlk;split<;>omega
theorem padL_more {n j:Nat} (h:n=0∨n % 16 ≠ 0) (h1:n < j) (h2:j≤padL n) (h3:j % 16 ≠ 0):j < padL n:=by have:=padL_mod n;omega
theorem padL_pad {n:Nat} (h:n=0∨n % 16 ≠ 0):n+1≤padL n:=by unfold padL nBlk;split<;>omega
theorem kSel_lt {key:Nat→Nat} (hk:B16 key) (n:Nat):B16 (kSel key n):=by
 unfold kSel
 split
 ·exact key2_lt hk
 ·exact key1_lt hk
theorem padF_lt {z:Nat→Nat} {n:Nat} (hz:∀j,j < n→z j < 256) (j:Nat):padF z n j < 256:=by
 unfold padF
 split
 ·exact hz _ (by assumption)
 ·split<;>decide
theorem msgI_lt {key z:Nat→Nat} {n:Nat} (hk:B16 key) (hz:∀j,j < n→z j < 256) (i:Nat) (hi:i≤16) (j:Nat):msgI key z n i j < 256:=by
 unfold msgI
 split
 ·exact xor_lt (padF_lt hz j) (kSel_lt hk n _ (by omega))
 ·exact padF_lt hz j
theorem msgI_zero (key z:Nat→Nat) (n j:Nat):msgI key z n 0 j=padF z n j:=by unfold msgI;rw[if_neg (by omega)]
theorem msgI_here (key z:Nat→Nat) (n i:Nat):msgI key z n i (padL n-16+i)=padF z n (padL n-16+i):=by unfold msgI;rw[if_neg (by omega)]
theorem msgI_next (key z:Nat→Nat) (n i:Nat):msgI key z n (i+1)=upd (msgI key z n i) (padL n-16+i) (msgI key z n i (padL n-16+i) ^^^ kSel key n i):=by
 funext j
 rw[msgI_here]
 unfold upd
 by_cases h:j=padL n-16+i
 ·rw[if_pos h]
  unfold msgI
  rw[if_pos (by omega),h,show padL n-16+i-(padL n-16)=i by omega]
 ·rw[if_neg h]
  unfold msgI
  by_cases h2:padL n-16≤j∧j < padL n-16+i
  ·rw[if_pos h2,if_pos (by omega)]
  ·rw[if_neg h2,if_neg (by omega)]
theorem msg_blk (key z:Nat→Nat) (n q j:Nat) (hq:q < nBlk n) (hj:j < 16):msgI key z n 16 (16*q+j)=macB key z n q j:=by
 have hP:padL n=16*nBlk n:=rfl
 unfold macB
 by_cases hl:n≤16*q+16
 ·have hqn:q+1=nBlk n:=by
   revert hq
   unfold nBlk
   split<;>omega
  rw[if_pos hl]
  unfold msgI
  rw[if_pos (by omega),show 16*q+j-(padL n-16)=j by omega]
  have hn:n=0∨16*q < n:=by
   by_cases h0:n=0
   ·exact .inl h0
   ·right
    revert hqn
    unfold nBlk
    rw[if_neg h0]
    omega
  have hq0:n=0→q=0:=fun h=>by
   subst h
   have:nBlk 0=1:=rfl
   omega
  by_cases hr:n-16*q=16
  ·have hk:¬(n=0∨n % 16 ≠ 0):=by omega
   unfold lastB kSel
   rw[if_pos hr,if_neg hk]
   unfold plusB blkAt padF
   rw[if_pos (by omega),if_pos (by omega)]
  ·have hk:n=0∨n % 16 ≠ 0:=by omega
   unfold lastB kSel
   rw[if_neg hr,if_pos hk]
   unfold plusB blkAt padF upd
   by_cases h1:16*q+j < n
   ·rw[if_pos h1,if_neg (by omega)]
    show _=(if 16*q+j < n then z (16*q+j) else 0) ^^^ key2 key j
    rw[if_pos h1]
   ·rw[if_neg h1]
    by_cases h2:16*q+j=n
    ·rw[if_pos h2,if_pos (by omega)]
    ·rw[if_neg h2,if_neg (by have:=hq0;omega)]
     show _=(if 16*q+j < n then z (16*q+j) else 0) ^^^ key2 key j
     rw[if_neg h1]
 ·have h1:16*q+16 < padL n:=by have:=padL_ge n;omega
  rw[if_neg hl]
  have h2:16*q+32≤padL n:=by omega
  unfold msgI
  rw[if_neg (by omega)]
  unfold blkAt padF
  rw[if_pos (by omega),if_pos (by omega)]
end Go.Proofs.YtjanmleoomoedaaGreat
namespace Go.Proofs.YtjanmleoomoedaaGreat
open Go.RowKit
attribute [local go_sem ↓] Go.wp_at_zero Go.wp_at_succ
set_option linter.unusedVariables false
theorem bits_set (b:Nat→Nat) (k:Nat) (hk:k < 128):(bA 129 (bitsK b k)).setIfInBounds k (.int .u8 ((bitAt b k:Nat):Int))=bA 129 (bitsK b (k+1)):=by
 rw[bA_upd 129 _ _ _ (by omega)]
 refine bA_congr fun j hj=>?_
 unfold upd bitsK
 by_cases e:j=k
 ·rw[if_pos e,if_pos (by omega),e]
 ·rw[if_neg e]
  by_cases h:j < k
  ·rw[if_pos h,if_pos (by omega)]
  ·rw[if_neg h,if_neg (by omega)]
theorem bits_all (b:Nat→Nat) (k:Nat) (hk:k < 128):bitsK b 128 (k+1)=bitAt b (k+1):=by
 unfold bitsK
 by_cases h:k+1 < 128
 ·rw[if_pos h]
 ·rw[if_neg h]
  unfold bitAt
  rw[if_neg h]
set_option maxRecDepth 100000 in
theorem bits_none (b:Nat→Nat):bA 129 (bitsK b 0)=#[.int .u8 0,.int .u8 0,.int .u8 0,.int .u8 0,.int .u8 0,.int .u8 0,.int .u8 0,.int .u8 0,.int .u8 0,.int .u8 0,.int .u8 0,.int .u8 0,.int .u8 0,.int .u8 0,.int .u8 0,.int .u8 0,.int .u8 0,.int .u8 0,.int .u8 0,.int .u8 0,.int .u8 0,.int .u8 0,.int .u8 0,.int .u8 0,.int .u8 0,.int .u8 0,.int .u8 0,.int .u8 0,.int .u8 0,.int .u8 0,.int .u8 0,.int .u8 0,.int .u8 0,.int .u8 0,.int .u8 0,.int .u8 0,.int .u8 0,.int .u8 0,.int .u8 0,.int .u8 0,.int .u8 0,.int .u8 0,.int .u8 0,.int .u8 0,.int .u8 0,.int .u8 0,.int .u8 0,.int .u8 0,.int .u8 0,.int .u8 0,.int .u8 0,.int .u8 0,.int .u8 0,.int .u8 0,.int .u8 0,.int .u8 0,.int .u8 0,.int .u8 0,.int .u8 0,.int .u8 0,.int .u8 0,.int .u8 0,.int .u8 0,.int .u8 0,.int .u8 0,.int .u8 0,.int .u8 0,.int .u8 0,.int .u8 0,.int .u8 0,.int .u8 0,.int .u8 0,.int .u8 0,.int .u8 0,.int .u8 0,.int .u8 0,.int .u8 0,.int .u8 0,.int .u8 0,.int .u8 0,.int .u8 0,.int .u8 0,.int .u8 0,.int .u8 0,.int .u8 0,.int .u8 0,.int .u8 0,.int .u8 0,.int .u8 0,.int .u8 0,.int .u8 0,.int .u8 0,.int .u8 0,.int .u8 0,.int .u8 0,.int .u8 0,.int .u8 0,.int .u8 0,.int .u8 0,.int .u8 0,.int .u8 0,.int .u8 0,.int .u8 0,.int .u8 0,.int .u8 0,.int .u8 0,.int .u8 0,.int .u8 0,.int .u8 0,.int .u8 0,.int .u8 0,.int .u8 0,.int .u8 0,.int .u8 0,.int .u8 0,.int .u8 0,.int .u8 0,.int .u8 0,.int .u8 0,.int .u8 0,.int .u8 0,.int .u8 0,.int .u8 0,.int .u8 0,.int .u8 0,.int .u8 0,.int .u8 0,.int .u8 0,.int .u8 0]:=by
 rw[show bitsK b 0=fun _=>0 from by funext j;unfold bitsK;rw[if_neg (by omega)]]
 kernel_rfl
theorem outS_set (b:Nat→Nat) (k:Nat) (hk:k < 128):(b16 (outS b k)).setIfInBounds (k / 8) (.int .u8 ((outS b k (k / 8) ||| bitAt b (k+1)*2 ^ (7-k % 8):Nat):Int))=b16 (outS b (k+1)):=by
 rw[b16_set _ _ _ (by omega)]
 rfl
theorem sh_lt (y s:Nat) (hy:y < 2) (hs:s≤7):y*2 ^ s < 256:=by
 have h2:2 ^ s≤2 ^ 7:=Nat.pow_le_pow_right (by decide) hs
 have h3:y*2 ^ s≤1*2 ^ 7:=Nat.mul_le_mul (by omega) h2
 omega
theorem shl_int (y s:Nat) (hy:y < 2) (hs:s≤7):(y:Int)*2 ^ s % 256=((y*2 ^ s:Nat):Int):=by
 have h:=sh_lt y s hy hs
 rw[show(y:Int)*2 ^ s=((y*2 ^ s:Nat):Int)from by rw[Int.natCast_mul,Int.natCast_pow];rfl]
 omega
set_option maxRecDepth 100000 in
set_option maxHeartbeats 3200000 in
theorem rdouble_ok (b:Nat→Nat) (hb:B16 b) (w:World):Calls Tryz.prog 127 #[.agg (b16 b)] w fun e w'=>e=.returned (.agg (b16 (dblB b)))∧Below w.heap.size w w':=by
 have HB8:=zh hb
 have HSB:=zh (size16 b)
 obtain⟨E,hE⟩:∃E:Nat→Array Value,E=fun k=>bA 129 (bitsK b k):=⟨_,rfl⟩
 obtain⟨O,hO⟩:∃O:Nat→Array Value,O=fun k=>b16 (outS b k):=⟨_,rfl⟩
 obtain⟨BB,hBB⟩:∃X,X=b16 b:=⟨_,rfl⟩
 obtain⟨DB,hDB⟩:∃X,X=b16 (dblB b):=⟨_,rfl⟩
 have HE0:Hid (E 0=#[.int .u8 0,.int .u8 0,.int .u8 0,.int .u8 0,.int .u8 0,.int .u8 0,.int .u8 0,.int .u8 0,.int .u8 0,.int .u8 0,.int .u8 0,.int .u8 0,.int .u8 0,.int .u8 0,.int .u8 0,.int .u8 0,.int .u8 0,.int .u8 0,.int .u8 0,.int .u8 0,.int .u8 0,.int .u8 0,.int .u8 0,.int .u8 0,.int .u8 0,.int .u8 0,.int .u8 0,.int .u8 0,.int .u8 0,.int .u8 0,.int .u8 0,.int .u8 0,.int .u8 0,.int .u8 0,.int .u8 0,.int .u8 0,.int .u8 0,.int .u8 0,.int .u8 0,.int .u8 0,.int .u8 0,.int .u8 0,.int .u8 0,.int .u8 0,.int .u8 0,.int .u8 0,.int .u8 0,.int .u8 0,.int .u8 0,.int .u8 0,.int .u8 0,.int .u8 0,.int .u8 0,.int .u8 0,.int .u8 0,.int .u8 0,.int .u8 0,.int .u8 0,.int .u8 0,.int .u8 0,.int .u8 0,.int .u8 0,.int .u8 0,.int .u8 0,.int .u8 0,.int .u8 0,.int .u8 0,.int .u8 0,.int .u8 0,.int .u8 0,.int .u8 0,.int .u8 0,.int .u8 0,.int .u8 0,.int .u8 0,.int .u8 0,.int .u8 0,.int .u8 0,.int .u8 0,.int .u8 0,.int .u8 0,.int .u8 0,.int .u8 0,.int .u8 0,.int .u8 0,.int .u8 0,.int .u8 0,.int .u8 0,.int .u8 0,.int .u8 0,.int .u8 0,.int .u8 0,.int .u8 0,.int .u8 0,.int .u8 0,.int .u8 0,.int .u8 0,.int .u8 0,.int .u8 0,.int .u8 0,.int .u8 0,.int .u8 0,.int .u8 0,.int .u8 0,.int .u8 0,.int .u8 0,.int .u8 0,.int .u8 0,.int .u8 0,.int .u8 0,.int .u8 0,.int .u8 0,.int .u8 0,.int .u8 0,.int .u8 0,.int .u8 0,.int .u8 0,.int .u8 0,.int .u8 0,.int .u8 0,.int .u8 0,.int .u8 0,.int .u8 0,.int .u8 0,.int .u8 0,.int .u8 0,.int .u8 0,.int .u8 0,.int .u8 0]):=zh (by rw[hE];exact bits_none b)
 have HO0:Hid (O 0=#[.int .u8 0,.int .u8 0,.int .u8 0,.int .u8 0,.int .u8 0,.int .u8 0,.int .u8 0,.int .u8 0,.int .u8 0,.int .u8 0,.int .u8 0,.int .u8 0,.int .u8 0,.int .u8 0,.int .u8 0,.int .u8 0]):=zh (by rw[hO];exact b16z)
 have HES:=zh (show ∀k,k < 128→(E k).setIfInBounds k (.int .u8 ((bitAt b k:Nat):Int))=E (k+1) by rw[hE];exact bits_set b)
 have HOS:=zh (show ∀k,k < 128→(O k).setIfInBounds (k / 8) (.int .u8 ((outS b k (k / 8) ||| bitAt b (k+1)*2 ^ (7-k % 8):Nat):Int))=O (k+1) by rw[hO];exact outS_set b)
 have HEA:=zh (show ∀k j,j < 129→(E k)[j]? = some (.int .u8 ((bitsK b k j:Nat):Int)) by rw[hE];exact fun k j hj=>bA_at _ _ hj)
 have HOA:=zh (show ∀k j,j < 16→(O k)[j]? = some (.int .u8 ((outS b k j:Nat):Int)) by rw[hO];exact fun k j hj=>b16_at _ hj)
 have HBA:=zh (show ∀j,j < 16→BB[j]? = some (.int .u8 ((b j:Nat):Int)) by rw[hBB];exact fun j hj=>b16_at _ hj)
 have HD1:=zh (show bitAt b 0=1→(O 128).setIfInBounds 15 (.int .u8 ((outS b 128 15 ^^^ 135:Nat):Int))=DB by
  rw[hO,hDB]
  intro h
  show(b16 (outS b 128)).setIfInBounds 15 _=_
  rw[b16_set _ _ _ (by decide)]
  exact b16_congr (dbl_set b hb h))
 have HD0:=zh (show bitAt b 0=0→O 128=DB by
  rw[hO,hDB]
  intro h
  exact b16_congr (dbl_not b hb h))
 have HSD:Hid ((Tryz.prog.info? 23).map (·.size)=some DB.size):=zh (by rw[hDB];exact size16 _)
 have HOD:Hid (DB.all (·.oneCell')=true):=zh (by rw[hDB];exact b16_one _)
 have HZD:Hid ((#[.int .u8 0,.int .u8 0,.int .u8 0,.int .u8 0,.int .u8 0,.int .u8 0,.int .u8 0,.int .u8 0,.int .u8 0,.int .u8 0,.int .u8 0,.int .u8 0,.int .u8 0,.int .u8 0,.int .u8 0,.int .u8 0]:Array Value).size=DB.size):=zh (by rw[hDB,b16_size];rfl)
 rw[←hBB,←hDB]
 obtain⟨ZB,hZB⟩:∃ZB:Array Value,ZB=#[.int .u8 0,.int .u8 0,.int .u8 0,.int .u8 0,.int .u8 0,.int .u8 0,.int .u8 0,.int .u8 0,.int .u8 0,.int .u8 0,.int .u8 0,.int .u8 0,.int .u8 0,.int .u8 0,.int .u8 0,.int .u8 0]:=⟨_,rfl⟩
 have HZB:=zh hZB
 rw[←hZB]at HZD
 clear hE hO hBB hDB hb hZB
 go_enter Tryz.func127,Tryz.ntmps127
 go_upto_region 2 with (fail)
 obtain⟨g,hg⟩:∃g,g=w.heap.size:=⟨_,rfl⟩
 refine wp_let (fun V=>Blk V g 23 BB∧Blk V (g+1) 23 ZB∧Blk V (g+1+1) 230 (E 0)∧Below w.heap.size w V) ⟨by rw[hg];exact((Blk.new _ _ _).alloc _).alloc _,by rw[hg,HZB.out];exact(blk_atA _ _ _ _ (by simp)).alloc _,by rw[hg,HE0.out];exact blk_atA _ _ _ _ (by simp),(((Below.refl _ _).alloc (Nat.le_refl _) _).alloc (by simp only[World.size_alloc];omega) _).alloc (by simp only[World.size_alloc];omega) _⟩ ?_
 rintro W1 ⟨b1,b2,b3,b4⟩
 have B0:=zh (And.intro b1 (And.intro b2 (And.intro b3 b4)))
 have HGG:=zh hg
 rw[←hg]
 clear b1 b2 b3 b4 hg HE0
 go_wp2
 go_loopw [4] (fun x wr=>∃k:Nat,k≤128∧x=.int .i64 k∧Blk wr g 23 BB∧Blk wr (g+1) 23 ZB∧Blk wr (g+1+1) 230 (E k)∧Below w.heap.size w wr) (fun x _=>128-(intOf x).toNat)
 case atStart=>exact⟨0,by omega,rfl,B0.out⟩
 case round=>
  clear B0
  obtain⟨k,hk,rfl,hG,hZ,hN,hbw⟩:=hrel
  have HG:=zh hG
  have HZ:=zh hZ
  have HN:=zh hN
  have HBW:=zh hbw
  clear hG hZ hN hbw
  have k0:(0:Int)≤(k:Int):=by omega
  by_cases hlt:k < 128
  ·have k1:(k:Int) < 128:=by omega
   have k2:(k:Int) < 129:=by omega
   obtain⟨q,hq⟩:∃q,q=k / 8:=⟨_,rfl⟩
   obtain⟨r,hr⟩:∃r,r=k % 8:=⟨_,rfl⟩
   obtain⟨s,hs⟩:∃s,s=7-r:=⟨_,rfl⟩
   have hq1:(k:Int) / 8=(q:Int):=by omega
   have hr1:(k:Int).tmod 8=(r:Int):=by rw[Int.tmod_eq_emod_of_nonneg (by omega)];omega
   have hs1:(7:Int)-(r:Int)=(s:Int):=by omega
   have q16:(q:Int) < 16:=by omega
   have q0:(0:Int)≤(q:Int):=by omega
   have s0:(0:Int)≤(s:Int):=by omega
   have wq:IntKind.i64.wrap (q:Int)=(q:Int):=by simp[IntKind.wrap_i64];omega
   have ws:IntKind.i64.wrap (s:Int)=(s:Int):=by simp[IntKind.wrap_i64];omega
   have s7:(s:Int) < 64:=by omega
   obtain⟨x,hx⟩:∃x,x=b q:=⟨_,rfl⟩
   have hx8:x < 256:=by rw[hx];exact HB8.out q (by omega)
   have cG:wr.cell? ⟨g,q,none⟩=some (.int .u8 (x:Int)):=by rw[hx];exact(HG.out.cell q).trans (HBA.out q (by omega))
   have cN:wr.cell? ⟨g+1+1,k,none⟩=some (.int .u8 ((bitsK b k k:Nat):Int)):=(HN.out.cell k).trans (HEA.out k k (by omega))
   have fN:=HN.out.frozen k
   have hand:bits .and .u8 ((x:Int) / 2 ^ s) 1=((bitAt b k:Nat):Int):=by
    rw[show(x:Int) / 2 ^ s=((x / 2 ^ s:Nat):Int)from by rw[Int.natCast_ediv,Int.natCast_pow];rfl,u8_and_one _ (Nat.lt_of_le_of_lt (Nat.div_le_self _ _) hx8)]
    unfold bitAt
    rw[if_pos hlt,hx,hs,hr,hq]
   have HSk:=zh (HES.out k hlt)
   generalize bitAt b k=y at hand HSk
   generalize bitsK b k k=y0 at cN
   have HH:=zh (And.intro hq (And.intro hr (And.intro hs hx)))
   clear hq hr hs hx
   go_wp2
   go_roundw
   case rel=>
    refine⟨k+1,by omega,by go_num,HG.out.far (p:=⟨g+1+1,k,none⟩) (by show ¬g=g+1+1;omega) _,HZ.out.far (p:=⟨g+1+1,k,none⟩) (by show ¬g+1=g+1+1;omega) _,?_,HBW.out.setCell (p:=⟨g+1+1,k,none⟩) (by have:=HGG.out;show w.heap.size≤g+1+1;omega) _⟩
    rw[←HSk.out]
    exact HN.out.set_ k _
   case measure=>simp[intOf];omega
  ·have hk128:k=128:=by omega
   have k1:¬(k:Int) < 128:=by omega
   rw[show E k=E 128 by rw[hk128]]at HN
   have HK:=zh hk128
   clear hk hlt hk128
   go_upto_region 7 with (fail)
   obtain⟨o,ho⟩:∃o,o=wr.heap.size:=⟨_,rfl⟩
   have hgo:g+1+1 < o:=by rw[ho];exact HN.out.lt
   refine wp_let (fun V=>Blk V o 23 (O 0)∧Blk V (g+1) 23 ZB∧Blk V (g+1+1) 230 (E 128)∧Below w.heap.size w V) ⟨by rw[ho,HO0.out];exact Blk.new _ _ _,HZ.out.alloc _,HN.out.alloc _,HBW.out.alloc HBW.out.size _⟩ ?_
   rintro W2 ⟨b1,b2,b3,b4⟩
   have B0:=zh (And.intro b1 (And.intro b2 (And.intro b3 b4)))
   rw[←ho]
   have HGO:=zh hgo
   clear b1 b2 b3 b4 ho hgo HO0 HG HZ HN HBW k0 k1
   go_wp2
   go_loopw [6] (fun x wr=>∃k:Nat,k≤128∧x=.int .i64 k∧Blk wr o 23 (O k)∧Blk wr (g+1) 23 ZB∧Blk wr (g+1+1) 230 (E 128)∧Below w.heap.size w wr) (fun x _=>128-(intOf x).toNat)
   case atStart=>exact⟨0,by omega,rfl,B0.out⟩
   case round=>
    clear B0
    obtain⟨k,hk,rfl,hO,hZ,hN,hbw⟩:=hrel
    have HO:=zh hO
    have HZ:=zh hZ
    have HN:=zh hN
    have HBW:=zh hbw
    clear hO hZ hN hbw
    have k0:(0:Int)≤(k:Int):=by omega
    by_cases hlt:k < 128
    ·have k1:(k:Int) < 128:=by omega
     obtain⟨m,hm⟩:∃m,m=k+1:=⟨_,rfl⟩
     have hm1:(k:Int)+1=(m:Int):=by omega
     have m0:(0:Int)≤(m:Int):=by omega
     have m2:(m:Int) < 129:=by omega
     obtain⟨q,hq⟩:∃q,q=k / 8:=⟨_,rfl⟩
     obtain⟨r,hr⟩:∃r,r=k % 8:=⟨_,rfl⟩
     obtain⟨s,hs⟩:∃s,s=7-r:=⟨_,rfl⟩
     have hq1:(k:Int) / 8=(q:Int):=by omega
     have hr1:(k:Int).tmod 8=(r:Int):=by rw[Int.tmod_eq_emod_of_nonneg (by omega)];omega
     have hs1:(7:Int)-(r:Int)=(s:Int):=by omega
     have q16:(q:Int) < 16:=by omega
     have q0:(0:Int)≤(q:Int):=by omega
     have s0:(0:Int)≤(s:Int):=by omega
     have wq:IntKind.i64.wrap (q:Int)=(q:Int):=by simp[IntKind.wrap_i64];omega
     have ws:IntKind.i64.wrap (s:Int)=(s:Int):=by simp[IntKind.wrap_i64];omega
     have wm:IntKind.i64.wrap (m:Int)=(m:Int):=by simp[IntKind.wrap_i64];omega
     have s7:(s:Int) < 64:=by omega
     obtain⟨x,hx⟩:∃x,x=outS b k q:=⟨_,rfl⟩
     have hx8:x < 256:=by rw[hx];exact outS_lt b k (by omega) _
     obtain⟨y,hy⟩:∃y,y=bitAt b (k+1):=⟨_,rfl⟩
     have hy2:y < 2:=by rw[hy];exact bitAt_lt b _
     have cO:wr.cell? ⟨o,q,none⟩=some (.int .u8 (x:Int)):=by rw[hx];exact(HO.out.cell q).trans (HOA.out k q (by omega))
     have fO:=HO.out.frozen q
     have cN:wr.cell? ⟨g+1+1,m,none⟩=some (.int .u8 (y:Int)):=by rw[hy,hm,←bits_all b k hlt];exact(HN.out.cell (k+1)).trans (HEA.out 128 (k+1) (by omega))
     have hshl:=shl_int y s hy2 (by omega)
     have hor:bits .or .u8 (x:Int) ((y*2 ^ s:Nat):Int)=((x ||| y*2 ^ s:Nat):Int):=u8_or_nat x _ hx8 (sh_lt y s hy2 (by omega))
     have HSk:=zh (show(O k).setIfInBounds q (.int .u8 ((x ||| y*2 ^ s:Nat):Int))=O m from by rw[hx,hy,hs,hr,hq,hm];exact HOS.out k hlt)
     generalize y*2 ^ s=u at hshl hor HSk
     generalize x ||| u=v at hor HSk
     have HM:=zh hm
     clear hq hr hs hx hy hm hx8 hy2
     go_upto_region 10 with (fail)
     go_region
     go_wp2
     go_roundw
     case rel=>
      refine⟨k+1,by omega,by go_num,?_,(HZ.out.far (p:=⟨o,q,none⟩) (by have:=HGO.out;show ¬g+1=o;omega) _).drew,(HN.out.far (p:=⟨o,q,none⟩) (by have:=HGO.out;show ¬g+1+1=o;omega) _).drew,(HBW.out.setCell (p:=⟨o,q,none⟩) (by have:=HGO.out;have:=HGG.out;show w.heap.size≤o;omega) _).drew⟩
      rw[←HM.out,←HSk.out]
      exact(HO.out.set_ q _).drew
     case measure=>simp[intOf];omega
    ·have hk128:k=128:=by omega
     have k1:¬(k:Int) < 128:=by omega
     rw[show O k=O 128 by rw[hk128]]at HO
     have HK2:=zh hk128
     clear hk hlt hk128
     have cN:wr.cell? ⟨g+1+1,0,none⟩=some (.int .u8 ((bitAt b 0:Nat):Int)):=(HN.out.cell 0).trans ((HEA.out 128 0 (by omega)).trans (by unfold bitsK;rw[if_pos (by decide)]))
     have hb2:=bitAt_lt b 0
     by_cases h1:bitAt b 0=1
     ·rw[h1]at cN
      have cO:wr.cell? ⟨o,15,none⟩=some (.int .u8 ((outS b 128 15:Nat):Int)):=(HO.out.cell 15).trans (HOA.out 128 15 (by omega))
      have fO:=HO.out.frozen 15
      have hx:bits .xor .u8 ((outS b 128 15:Nat):Int) 135=((outS b 128 15 ^^^ 135:Nat):Int):=bx _ 135 _ (outS_lt b 128 (by omega) _) (by decide) rfl
      have hSk:=HD1.out h1
      generalize outS b 128 15 ^^^ 135=v at hx hSk
      generalize outS b 128 15=x at cO hx
      have HOX:=zh (show Blk (wr.setCell ⟨o,15,none⟩ (.int .u8 (v:Int))) o 23 DB from by rw[←hSk];exact HO.out.set_ 15 _)
      have HZX:=zh (HZ.out.far (p:=⟨o,15,none⟩) (by have:=HGO.out;show ¬g+1=o;omega) (.int .u8 (v:Int)))
      have HBX:=zh (HBW.out.setCell (p:=⟨o,15,none⟩) (by have:=HGO.out;have:=HGG.out;show w.heap.size≤o;omega) (.int .u8 (v:Int)))
      clear h1 hb2 hSk
      go_wp2_with (first
       | (refine wpList_load_row rfl _ _ rfl o rfl 23 DB (0,0) _ HOX.out Tryz.underlying23 rfl HSD.out ?_)
       | (refine wpList_store_row rfl _ _ _ rfl (g+1) DB rfl rfl 23 ZB HZX.out HSD.out HZD.out HOD.out ?_))
      refine bodyPost_ret (v:=.agg DB) (results_cell_row (g:=g+1) (t:=23) (fr:=(0,0)) Tryz.results127 _ _ DB _ rfl (setRow_heap _ (g+1) ZB DB 23 (0,0) HZX.out) Tryz.underlying23 rfl HSD.out) rfl ⟨rfl,?_⟩
      exact belowRow HBX.out (by have:=HGG.out;omega) _
     ·have h0:bitAt b 0=0:=by omega
      rw[h0]at cN
      have HOX:=zh (show Blk wr o 23 DB from by rw[←HD0.out h0];exact HO.out)
      clear h1 hb2 h0
      go_wp2_with (first
       | (refine wpList_load_row rfl _ _ rfl o rfl 23 DB (0,0) _ HOX.out Tryz.underlying23 rfl HSD.out ?_)
       | (refine wpList_store_row rfl _ _ _ rfl (g+1) DB rfl rfl 23 ZB HZ.out HSD.out HZD.out HOD.out ?_))
      refine bodyPost_ret (v:=.agg DB) (results_cell_row (g:=g+1) (t:=23) (fr:=(0,0)) Tryz.results127 _ _ DB _ rfl (setRow_heap _ (g+1) ZB DB 23 (0,0) HZ.out) Tryz.underlying23 rfl HSD.out) rfl ⟨rfl,?_⟩
      exact belowRow HBW.out (by have:=HGG.out;omega) _
end Go.Proofs.YtjanmleoomoedaaGreat
namespace Go.Proofs.YtjanmleoomoedaaGreat
open Go.RowKit
set_option linter.unusedVariables false
attribute [local go_sem ↓] Go.wp_at_zero Go.wp_at_succ
set_option maxRecDepth 100000 in
set_option maxHeartbeats 1600000 in
theorem rsubkeys_ok (key:Nat→Nat) (hk:B16 key) (w:World) :
  Calls Tryz.prog 100 #[.agg (b16 key)] w fun e w'=>e=.returned (.tuple #[.agg (b16 (key1 key)),.agg (b16 (key2 key))])∧Below w.heap.size w w':=by
 have HEN:=zh (fun V=>renc_ok key zB hk zB_lt V)
 have HD1:=zh (fun V=>rdouble_ok (aesF key zB) (aesF_lt hk zB_lt) V)
 have HD2:=zh (fun V=>rdouble_ok (key1 key) (key1_lt hk) V)
 rw[show b16 zB=#[.int .u8 0,.int .u8 0,.int .u8 0,.int .u8 0,.int .u8 0,.int .u8 0,.int .u8 0,.int .u8 0,.int .u8 0,.int .u8 0,.int .u8 0,.int .u8 0,.int .u8 0,.int .u8 0,.int .u8 0,.int .u8 0]from b16z]at HEN
 have HSK:=zh (size16 key)
 have HS1:=zh (size16 (key1 key))
 have HS2:=zh (size16 (key2 key))
 have HO1:=zh (b16_one (key1 key))
 have HO2:=zh (b16_one (key2 key))
 obtain⟨KY,hKY⟩:∃X,X=b16 key:=⟨_,rfl⟩
 obtain⟨EZ,hEZ⟩:∃X,X=b16 (aesF key zB):=⟨_,rfl⟩
 obtain⟨K1,hK1⟩:∃X,X=b16 (key1 key):=⟨_,rfl⟩
 obtain⟨K2,hK2⟩:∃X,X=b16 (key2 key):=⟨_,rfl⟩
 rw[show dblB (aesF key zB)=key1 key from rfl]at HD1
 rw[show dblB (key1 key)=key2 key from rfl]at HD2
 rw[←hKY]at HEN HSK
 rw[←hEZ]at HEN HD1
 rw[←hK1]at HD1 HD2 HS1 HO1
 rw[←hK2]at HD2 HS2 HO2
 rw[←hKY,←hK1,←hK2]
 have HZ1:Hid ((#[.int .u8 0,.int .u8 0,.int .u8 0,.int .u8 0,.int .u8 0,.int .u8 0,.int .u8 0,.int .u8 0,.int .u8 0,.int .u8 0,.int .u8 0,.int .u8 0,.int .u8 0,.int .u8 0,.int .u8 0,.int .u8 0]:Array Value).size=K1.size):=zh (by rw[hK1,b16_size];rfl)
 have HZ2:Hid ((#[.int .u8 0,.int .u8 0,.int .u8 0,.int .u8 0,.int .u8 0,.int .u8 0,.int .u8 0,.int .u8 0,.int .u8 0,.int .u8 0,.int .u8 0,.int .u8 0,.int .u8 0,.int .u8 0,.int .u8 0,.int .u8 0]:Array Value).size=K2.size):=zh (by rw[hK2,b16_size];rfl)
 have HZ0:Hid ((#[.int .u8 0,.int .u8 0,.int .u8 0,.int .u8 0,.int .u8 0,.int .u8 0,.int .u8 0,.int .u8 0,.int .u8 0,.int .u8 0,.int .u8 0,.int .u8 0,.int .u8 0,.int .u8 0,.int .u8 0,.int .u8 0]:Array Value).size=K1.size):=HZ1
 obtain⟨ZB,hZB⟩:∃ZB:Array Value,ZB=#[.int .u8 0,.int .u8 0,.int .u8 0,.int .u8 0,.int .u8 0,.int .u8 0,.int .u8 0,.int .u8 0,.int .u8 0,.int .u8 0,.int .u8 0,.int .u8 0,.int .u8 0,.int .u8 0,.int .u8 0,.int .u8 0]:=⟨_,rfl⟩
 have HZB:=zh hZB
 rw[←hZB]at HZ1 HZ2
 clear hKY hEZ hK1 hK2 hZB
 go_enter Tryz.func100,Tryz.ntmps100
 go_upto_region 1 with (fail)
 obtain⟨bb,hbb⟩:∃bb,bb=w.heap.size:=⟨_,rfl⟩
 refine wp_let (fun V=>Blk V bb 23 KY∧Blk V (bb+1) 23 ZB∧Blk V (bb+1+1) 23 ZB∧Below w.heap.size w V) ⟨by rw[hbb];exact((Blk.new _ _ _).alloc _).alloc _,by rw[hbb,HZB.out];exact(blk_atA _ _ _ _ (by simp)).alloc _,by rw[hbb,HZB.out];exact blk_atA _ _ _ _ (by simp),(((Below.refl _ _).alloc (Nat.le_refl _) _).alloc (by simp only[World.size_alloc];omega) _).alloc (by simp only[World.size_alloc];omega) _⟩ ?_
 rintro W1 ⟨b1,b2,b3,b4⟩
 have B1:=zh b1
 have B2:=zh b2
 have B3:=zh b3
 have B4:=zh b4
 have HBB:=zh hbb
 rw[←hbb]
 clear b1 b2 b3 b4 hbb
 go_upto_region 2 with (first
  | (refine wpList_load_row rfl _ _ rfl bb rfl 23 KY (0,0) _ B1.out Tryz.underlying23 rfl HSK.out ?_)
  | (go_at_call 79;with_reducible refine(HEN.out _).mono ?_;rintro e w3 ⟨rfl,hB⟩;have E3:=zh hB;clear hB)
  | (go_at_call 127;with_reducible refine(HD1.out _).mono ?_;rintro e w4 ⟨rfl,hB⟩;have E4:=zh (E3.out.trans (hB.mono E3.out.size));clear hB)
  | (refine wpList_store_row rfl _ _ _ rfl w4.heap.size K1 rfl rfl 23 _ (Blk.new w4 _ _) HS1.out HZ0.out HO1.out ?_))
 try simp only[Act.put]
 obtain⟨cb,hcb⟩:∃cb,cb=w4.heap.size:=⟨_,rfl⟩
 refine wp_let (fun V=>Blk V cb 23 K1∧Below W1.heap.size W1 V) ⟨by rw[hcb];exact Blk.setRow (Blk.new _ _ _),belowRow (E4.out.alloc E4.out.size _) E4.out.size _⟩ ?_
 rintro V ⟨v1,v2⟩
 have hne1:cb ≠ bb+1:=by rw[hcb];have:=E4.out.size;have:=B3.out.lt;omega
 have hne2:cb ≠ bb+1+1:=by rw[hcb];have:=E4.out.size;have:=B3.out.lt;omega
 have V1:=zh v1
 have V2:=zh (B2.out.below v2 B2.out.lt)
 have V3:=zh (B3.out.below v2 B3.out.lt)
 have V4:=zh (B4.out.trans (v2.mono B4.out.size))
 rw[←hcb]
 have HKR:=zh (show ∀W',KeepF (fun k=>k=bb+1∨k=bb+1+1) V W'→W'.rangeAt cb 0 K1.toList from fun W' hW=>Blk.range (hW.blk V1.out (fun h=>by rcases h with h | h;exact hne1 h;exact hne2 h)) K1.toList (by rw[Array.toArray_toList]))
 have HSC:Hid ((Tryz.prog.info? 23).map (·.size)=some K1.toList.length):=zh (by rw[Array.length_toList];exact HS1.out)
 have HUC:=zh Tryz.underlying23
 clear v1 v2 hcb hne1 hne2
 obtain⟨w0,hw0⟩:∃w0,w0=V.drew:=⟨_,rfl⟩
 have hb0:Below V.heap.size V w0:=by rw[hw0];exact(Below.refl _ _).drew
 refine wp_region_held_drew (S:=fun w'=>KeepF (fun k=>k=bb+1∨k=bb+1+1) V w') (by kernel_rfl) ((KeepF.refl (w:=V)).drew) (fun hHeld=>?_)
 rw[←hw0]
 rw[←hw0]at hHeld
 clear hw0
 refine' wpAnyH_take (i:=0) (oi:=⟨some 9,_,_,_,_,_⟩) (v:=_) rfl (by kernel_rfl) (by kernel_rfl) (by kernel_rfl) (fun _ _ _ h=>h) (yieldsIf_load_mid (by rfl) _ _ rfl cb 0 rfl K1.toList _ (fun w h=>HKR.out w h) HUC.out rfl HSC.out) (by assumption) ?_
 try simp only[Act.put,List.setIfInBounds_toArray,List.set_cons_zero,List.set_cons_succ]
 refine' wpAnyH_take (i:=1) (oi:=⟨some 10,_,_,_,_,_⟩) (v:=_) rfl (by kernel_rfl) (by kernel_rfl) (by kernel_rfl) (fun _ _ _ h=>h) (yieldsIf_load_mid (by rfl) _ _ rfl cb 0 rfl K1.toList _ (fun w h=>HKR.out w h) HUC.out rfl HSC.out) (by assumption) ?_
 try simp only[Act.put,List.setIfInBounds_toArray,List.set_cons_zero,List.set_cons_succ]
 refine wpAnyH_ready (rs:=[2]) (by kernel_rfl) (by simp) ?_
 refine AllReadyH.cons (o:=⟨some 11,_,_,_,_,_⟩) rfl (fun K hK=>?_) AllReadyH.nil
 rw[if_pos (by rfl)]
 go_simp
 refine(HD2.out w0).mono ?_
 rintro e w5 ⟨rfl,hB⟩
 dsimp only
 have H5:KeepF (fun k=>k=bb+1∨k=bb+1+1) V w5:=hHeld.trans (KeepF.of_below (F:=fun _=>False) hB) (fun _ _ h=>h.elim)
 have C2:=V2.out.below (hb0.trans (hB.mono hb0.size)) V2.out.lt
 have C3:=V3.out.below (hb0.trans (hB.mono hb0.size)) V3.out.lt
 refine hK.out _ _ H5 (fun hHeld=>?_)
 clear hK K hB
 try simp only[Act.put,List.setIfInBounds_toArray,List.set_cons_zero,List.set_cons_succ]
 refine wpAnyH_ready (rs:=[3]) (by kernel_rfl) (by simp) ?_
 refine AllReadyH.cons (o:=⟨none,_,_,_,_,_⟩) rfl (fun K hK=>?_) AllReadyH.nil
 rw[if_pos (by rfl)]
 refine wp_store_row _ _ _ rfl (bb+1) K1 rfl rfl 23 ZB C2 HS1.out HZ1.out HO1.out ?_
 have H6:KeepF (fun k=>k=bb+1∨k=bb+1+1) V (w5.setRow (bb+1) K1):=⟨H5.os,H5.tape,H5.output,by rw[size_setRow];exact H5.size,fun k hk hn=>(setRow_other w5 (bb+1) k K1 (fun e=>hn (.inl e))).trans (H5.block k hk hn)⟩
 have D2:Blk (w5.setRow (bb+1) K1) (bb+1) 23 K1:=Blk.setRow C2
 have D3:Blk (w5.setRow (bb+1) K1) (bb+1+1) 23 ZB:=Blk.farRow C3 (by omega)
 refine hK.out _ _ H6 (fun hHeld=>?_)
 clear hK K
 try simp only[Act.put]
 refine wpAnyH_ready (rs:=[4]) (by kernel_rfl) (by simp) ?_
 refine AllReadyH.cons (o:=⟨none,_,_,_,_,_⟩) rfl (fun K hK=>?_) AllReadyH.nil
 rw[if_pos (by rfl)]
 refine wp_store_row _ _ _ rfl (bb+1+1) K2 rfl rfl 23 ZB D3 HS2.out HZ2.out HO2.out ?_
 have H7:KeepF (fun k=>k=bb+1∨k=bb+1+1) V ((w5.setRow (bb+1) K1).setRow (bb+1+1) K2):=⟨H6.os,H6.tape,H6.output,by rw[size_setRow];exact H6.size,fun k hk hn=>(setRow_other _ (bb+1+1) k K2 (fun e=>hn (.inr e))).trans (H6.block k hk hn)⟩
 have F2:Blk ((w5.setRow (bb+1) K1).setRow (bb+1+1) K2) (bb+1) 23 K1:=Blk.farRow D2 (by omega)
 have F3:Blk ((w5.setRow (bb+1) K1).setRow (bb+1+1) K2) (bb+1+1) 23 K2:=Blk.setRow D3
 refine hK.out _ _ H7 (fun hHeld=>?_)
 clear hK K
 try simp only[Act.put]
 refine wpAnyH_done (by kernel_rfl) ?_ _
 go_wp2
 refine bodyPost_ret (v:=.tuple #[.agg K1,.agg K2]) (results_two_rows (g1:=bb+1) (g2:=bb+1+1) (t:=23) (f1:=(0,0)) (f2:=(0,0)) Tryz.results100 _ _ _ _ _ rfl F2 rfl F3 Tryz.underlying23 rfl HS1.out HS2.out) rfl ⟨rfl,?_⟩
 exact KeepF.below V4.out H7 (fun k hk=>by rcases hk with h | h<;>(rw[h,HBB.out];omega)) V4.out.size
end Go.Proofs.YtjanmleoomoedaaGreat

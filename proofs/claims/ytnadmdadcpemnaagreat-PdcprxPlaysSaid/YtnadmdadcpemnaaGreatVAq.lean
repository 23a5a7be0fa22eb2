import Derived.Laws.BitsAllLaws
namespace Go.Proofs.YtnadmdadcpemnaaGreat
set_option linter.unusedVariables false
set_option linter.unusedSimpArgs false
open Go
def dbl (a:Nat):Nat:=(a*2 % 256) ^^^ (a / 128*27 % 256)
theorem xor_lt {a b:Nat} (ha:a < 256) (hb:b < 256):a ^^^ b < 256:=Nat.xor_lt_two_pow (n:=8) ha hb
theorem dbl_lt (a:Nat):dbl a < 256:=xor_lt (Nat.mod_lt _ (by decide)) (Nat.mod_lt _ (by decide))
def pw3:Nat->Nat
 | 0=>1
 | i+1=>pw3 i ^^^ dbl (pw3 i)
theorem pw3_lt:∀i,pw3 i < 256
 | 0=>by decide
 | i+1=>xor_lt (pw3_lt i) (dbl_lt _)
def mulF:Nat->Nat->Nat->Nat->Nat
 | 0,_,_,p=>p
 | f+1,a,b,p=>if b=0 then p else mulF f (dbl a) (b / 2) (p ^^^ (b % 2*a % 256))
def gmul (a b:Nat):Nat:=mulF 8 a b 0
theorem mulF_lt:∀f a b p,p < 256->mulF f a b p < 256
 | 0,_,_,p,h=>h
 | f+1,a,b,p,h=>by
  rw[mulF]
  split
  ·exact h
  ·exact mulF_lt f _ _ _ (xor_lt h (Nat.mod_lt _ (by decide)))
theorem gmul_lt (a b:Nat):gmul a b < 256:=mulF_lt 8 a b 0 (by decide)
theorem mulF_zero:∀f a p,mulF f a 0 p=p
 | 0,_,_=>rfl
 | f+1,a,p=>by rw[mulF,if_pos rfl]
theorem mulF_step (k a b p:Nat) (hb:b < 2 ^ (k+1)) (h0:b ≠ 0):mulF (k+1) a b p=mulF k (dbl a) (b / 2) (p ^^^ (b % 2*a % 256)):=by rw[mulF,if_neg h0]
def rl8 (x k:Nat):Nat:=(x*2 ^ k % 256) ||| (x / 2 ^ (8-k))
theorem rl8_lt (x k:Nat) (hx:x < 256):rl8 x k < 256:=by
 unfold rl8
 exact Nat.or_lt_two_pow (n:=8) (Nat.mod_lt _ (by decide)) (Nat.lt_of_le_of_lt (Nat.div_le_self _ _) hx)
def aff (x:Nat):Nat:=x ^^^ rl8 x 1 ^^^ rl8 x 2 ^^^ rl8 x 3 ^^^ rl8 x 4 ^^^ 99
theorem aff_lt (x:Nat) (hx:x < 256):aff x < 256:=by
 unfold aff
 exact xor_lt (xor_lt (xor_lt (xor_lt (xor_lt hx (rl8_lt _ _ hx)) (rl8_lt _ _ hx)) (rl8_lt _ _ hx)) (rl8_lt _ _ hx)) (by decide)
def upd (f:Nat->Nat) (i v:Nat):Nat->Nat:=fun j=>if j=i then v else f j
theorem upd_lt {f:Nat->Nat} {i v:Nat} (hf:∀j,f j < 256) (hv:v < 256):∀j,upd f i v j < 256:=fun j=>by
 unfold upd
 split
 ·exact hv
 ·exact hf j
def boxK:Nat->Nat->Nat
 | 0=>upd (fun _=>0) 0 (aff 0)
 | k+1=>upd (boxK k) (pw3 k) (aff (pw3 ((255-k) % 255)))
def invK:Nat->Nat->Nat
 | 0=>upd (fun _=>0) (aff 0) 0
 | k+1=>upd (invK k) (aff (pw3 ((255-k) % 255))) (pw3 k)
theorem boxK_lt:∀k j,boxK k j < 256
 | 0=>upd_lt (fun _=>by decide) (aff_lt 0 (by decide))
 | k+1=>upd_lt (boxK_lt k) (aff_lt _ (pw3_lt _))
def sbx:Nat->Nat:=boxK 255
def isb:Nat->Nat:=invK 255
theorem pw3_ne:∀i,i < 255->pw3 i ≠ 0:=by decide +kernel
theorem sbx_zero:sbx 0=99:=by
 have h:∀k,k<=255->boxK k 0=99:=by
  intro k
  induction k with
  | zero=>intro _;decide
  | succ k ih=>
   intro hk;rw[boxK,upd,if_neg (fun e=>pw3_ne k (by omega) e.symm)]
   exact ih (by omega)
 exact h 255 (Nat.le_refl _)
def rowC (box:Nat->Nat) (L:Nat->Nat) (p:Nat):Nat->Nat->Nat
 | 0,r=>if r=0 then L 0 ^^^ box (L 13) ^^^ p else L r ^^^ box (L (12+(r+1) % 4))
 | c+1,r=>L (4*(c+1)+r) ^^^ rowC box L p c r
def pw2:Nat->Nat
 | 0=>1
 | n+1=>dbl (pw2 n)
theorem pw2_lt:∀n,pw2 n < 256
 | 0=>by decide
 | n+1=>dbl_lt _
def sched (box:Nat->Nat) (key:Nat->Nat):Nat->Nat->Nat
 | 0,i=>key i
 | n+1,i=>rowC box (sched box key n) (pw2 n) (i / 4) (i % 4)
theorem rowC_lt {box L:Nat->Nat} {p:Nat} (hb:∀j,box j < 256) (hL:∀j,j < 16->L j < 256) (hp:p < 256):∀c r,c < 4->r < 4->rowC box L p c r < 256
 | 0,r,_,hr=>by
  rw[rowC]
  split
  ·exact xor_lt (xor_lt (hL 0 (by decide)) (hb _)) hp
  ·exact xor_lt (hL r (by omega)) (hb _)
 | c+1,r,hc,hr=>by
  rw[rowC]
  exact xor_lt (hL _ (by omega)) (rowC_lt hb hL hp c r (by omega) hr)
theorem sched_lt {box key:Nat->Nat} (hb:∀j,box j < 256) (hk:∀j,j < 16->key j < 256):∀n i,i < 16->sched box key n i < 256
 | 0,i,hi=>hk i hi
 | n+1,i,hi=>rowC_lt hb (sched_lt hb hk n) (pw2_lt n) _ _ (by omega) (by omega)
theorem sched_first (box key:Nat->Nat) (n:Nat):sched box key (n+1) 0=sched box key n 0 ^^^ box (sched box key n 13) ^^^ pw2 n:=by simp[sched,rowC]
theorem sched_head (box key:Nat->Nat) (n i:Nat) (h0:i ≠ 0) (h4:i < 4):sched box key (n+1) i=sched box key n i ^^^ box (sched box key n (12+(i+1) % 4)):=by
 rw[sched,Nat.div_eq_of_lt h4,Nat.mod_eq_of_lt h4,rowC,if_neg h0]
theorem sched_tail (box key:Nat->Nat) (n i:Nat) (h4:4<=i):sched box key (n+1) i=sched box key n i ^^^ sched box key (n+1) (i-4):=by
 obtain⟨c,hc⟩:∃c,i / 4=c+1:=⟨i / 4-1,by omega⟩
 have h1:(i-4) / 4=c:=by omega
 have h2:(i-4) % 4=i % 4:=by omega
 have h3:4*(c+1)+i % 4=i:=by omega
 rw[sched,sched,hc,h1,h2,rowC,h3]
def sSub (b:Nat->Nat):Nat->Nat:=fun i=>sbx (b i)
def sShift (b:Nat->Nat):Nat->Nat:=fun i=>b ((i+4*(i % 4)) % 16)
def mixAt (b:Nat->Nat) (i:Nat):Nat:=0 ^^^ gmul 2 (b (i / 4*4+(i+0) % 4)) ^^^ gmul 3 (b (i / 4*4+(i+1) % 4)) ^^^ gmul 1 (b (i / 4*4+(i+2) % 4)) ^^^ gmul 1 (b (i / 4*4+(i+3) % 4))
def sMix (n:Nat) (b:Nat->Nat):Nat->Nat:=if n=10 then b else fun i=>mixAt b i
def sAdd (keys:Nat->Nat->Nat) (n:Nat) (b:Nat->Nat):Nat->Nat:=fun i=>b i ^^^ keys n i
def sRound (keys:Nat->Nat->Nat) (n:Nat) (b:Nat->Nat):Nat->Nat:=sAdd keys n (sMix n (sShift (sSub b)))
def sRounds (keys:Nat->Nat->Nat) (b:Nat->Nat):Nat->Nat->Nat
 | 0=>sAdd keys 0 b
 | n+1=>sRound keys (n+1) (sRounds keys b n)
def aesF (key b:Nat->Nat):Nat->Nat:=sRounds (sched sbx key) b 10
def B16 (b:Nat->Nat):Prop:=∀j,j < 16->b j < 256
theorem sSub_lt (b:Nat->Nat):B16 (sSub b):=fun j _=>boxK_lt 255 _
theorem sShift_lt {b:Nat->Nat} (h:B16 b):B16 (sShift b):=fun j _=>h _ (Nat.mod_lt _ (by decide))
theorem sMix_lt {b:Nat->Nat} (n:Nat) (h:B16 b):B16 (sMix n b):=fun j hj=>by
 unfold sMix
 split
 ·exact h j hj
 ·exact xor_lt (xor_lt (xor_lt (xor_lt (by decide) (gmul_lt _ _)) (gmul_lt _ _)) (gmul_lt _ _)) (gmul_lt _ _)
theorem sAdd_lt {keys:Nat->Nat->Nat} (n:Nat) {b:Nat->Nat} (hk:B16 (keys n)) (h:B16 b):B16 (sAdd keys n b):=fun j hj=>xor_lt (h j hj) (hk j hj)
theorem sRounds_lt {keys:Nat->Nat->Nat} {b:Nat->Nat} (hk:∀n,B16 (keys n)) (h:B16 b):∀n,B16 (sRounds keys b n)
 | 0=>sAdd_lt 0 (hk 0) h
 | n+1=>sAdd_lt (n+1) (hk _) (sMix_lt _ (sShift_lt (sSub_lt _)))
theorem aesF_lt {key b:Nat->Nat} (hk:B16 key) (h:B16 b):B16 (aesF key b):=sRounds_lt (fun n i hi=>sched_lt (boxK_lt 255) hk n i hi) h 10
end Go.Proofs.YtnadmdadcpemnaaGreat

import Derived.Laws.BitsAllLaws
set_option linter.unusedVariables false
set_option linter.unusedSimpArgs false
namespace Go.Proofs.YtiiojpnckbglcaaGreat
open Go
def uI (a:Nat):Nat:=(a*2 % 256) ^^^ (a / 128*27 % 256)
theorem be {a b:Nat} (ha:a < 256) (hb:b < 256):a ^^^ b < 256:=Nat.xor_lt_two_pow (n:=8) ha hb
theorem l7 (a:Nat):uI a < 256:=be (Nat.mod_lt _ (by decide)) (Nat.mod_lt _ (by decide))
def iH:Nat->Nat
 | 0=>1
 | i+1=>iH i ^^^ uI (iH i)
theorem iK:∀i,iH i < 256
 | 0=>by decide
 | i+1=>be (iK i) (l7 _)
def kV:Nat->Nat->Nat->Nat->Nat
 | 0,_,_,p=>p
 | f+1,a,b,p=>if b=0 then p else kV f (uI a) (b / 2) (p ^^^ (b % 2*a % 256))
def kt (a b:Nat):Nat:=kV 8 a b 0
theorem qx:∀f a b p,p < 256->kV f a b p < 256
 | 0,_,_,p,h=>h
 | f+1,a,b,p,h=>by
  rw[kV]
  split
  ·exact h
  ·exact qx f _ _ _ (be h (Nat.mod_lt _ (by decide)))
theorem gj (a b:Nat):kt a b < 256:=qx 8 a b 0 (by decide)
theorem q9:∀f a p,kV f a 0 p=p
 | 0,_,_=>rfl
 | f+1,a,p=>by rw[kV,if_pos rfl]
theorem si (k a b p:Nat) (hb:b < 2 ^ (k+1)) (h0:b ≠ 0):kV (k+1) a b p=kV k (uI a) (b / 2) (p ^^^ (b % 2*a % 256)):=by rw[kV,if_neg h0]
def jq (x k:Nat):Nat:=(x*2 ^ k % 256) ||| (x / 2 ^ (8-k))
theorem fN (x k:Nat) (hx:x < 256):jq x k < 256:=by
 unfold jq
 exact Nat.or_lt_two_pow (n:=8) (Nat.mod_lt _ (by decide)) (Nat.lt_of_le_of_lt (Nat.div_le_self _ _) hx)
def sm (x:Nat):Nat:=x ^^^ jq x 1 ^^^ jq x 2 ^^^ jq x 3 ^^^ jq x 4 ^^^ 99
theorem pI (x:Nat) (hx:x < 256):sm x < 256:=by
 unfold sm
 exact be (be (be (be (be hx (fN _ _ hx)) (fN _ _ hx)) (fN _ _ hx)) (fN _ _ hx)) (by decide)
def eA (f:Nat->Nat) (i v:Nat):Nat->Nat:=fun j=>if j=i then v else f j
theorem uw {f:Nat->Nat} {i v:Nat} (hf:∀j,f j < 256) (hv:v < 256):∀j,eA f i v j < 256:=fun j=>by
 unfold eA
 split
 ·exact hv
 ·exact hf j
def kx:Nat->Nat->Nat
 | 0=>eA (fun _=>0) 0 (sm 0)
 | k+1=>eA (kx k) (iH k) (sm (iH ((255-k) % 255)))
def nS:Nat->Nat->Nat
 | 0=>eA (fun _=>0) (sm 0) 0
 | k+1=>eA (nS k) (sm (iH ((255-k) % 255))) (iH k)
theorem fi:∀k j,kx k j < 256
 | 0=>uw (fun _=>by decide) (pI 0 (by decide))
 | k+1=>uw (fi k) (pI _ (iK _))
def fX:Nat->Nat:=kx 255
def wP:Nat->Nat:=nS 255
theorem xj:∀i,i < 255->iH i ≠ 0:=by decide +kernel
theorem uj:fX 0=99:=by
 have h:∀k,k<=255->kx k 0=99:=by
  intro k
  induction k with
  | zero=>intro _;decide
  | succ k ih=>
   intro hk;rw[kx,eA,if_neg (fun e=>xj k (by omega) e.symm)]
   exact ih (by omega)
 exact h 255 (Nat.le_refl _)
def nV (box:Nat->Nat) (L:Nat->Nat) (p:Nat):Nat->Nat->Nat
 | 0,r=>if r=0 then L 0 ^^^ box (L 13) ^^^ p else L r ^^^ box (L (12+(r+1) % 4))
 | c+1,r=>L (4*(c+1)+r) ^^^ nV box L p c r
def uS:Nat->Nat
 | 0=>1
 | n+1=>uI (uS n)
theorem pP:∀n,uS n < 256
 | 0=>by decide
 | n+1=>l7 _
def aX (box:Nat->Nat) (key:Nat->Nat):Nat->Nat->Nat
 | 0,i=>key i
 | n+1,i=>nV box (aX box key n) (uS n) (i / 4) (i % 4)
theorem qt {box L:Nat->Nat} {p:Nat} (hb:∀j,box j < 256) (hL:∀j,j < 16->L j < 256) (hp:p < 256):∀c r,c < 4->r < 4->nV box L p c r < 256
 | 0,r,_,hr=>by
  rw[nV]
  split
  ·exact be (be (hL 0 (by decide)) (hb _)) hp
  ·exact be (hL r (by omega)) (hb _)
 | c+1,r,hc,hr=>by
  rw[nV]
  exact be (hL _ (by omega)) (qt hb hL hp c r (by omega) hr)
theorem eK {box key:Nat->Nat} (hb:∀j,box j < 256) (hk:∀j,j < 16->key j < 256):∀n i,i < 16->aX box key n i < 256
 | 0,i,hi=>hk i hi
 | n+1,i,hi=>qt hb (eK hb hk n) (pP n) _ _ (by omega) (by omega)
theorem n3 (box key:Nat->Nat) (n:Nat):aX box key (n+1) 0=aX box key n 0 ^^^ box (aX box key n 13) ^^^ uS n:=by simp[aX,nV]
theorem px (box key:Nat->Nat) (n i:Nat) (h0:i ≠ 0) (h4:i < 4):aX box key (n+1) i=aX box key n i ^^^ box (aX box key n (12+(i+1) % 4)):=by
 rw[aX,Nat.div_eq_of_lt h4,Nat.mod_eq_of_lt h4,nV,if_neg h0]
theorem oQ (box key:Nat->Nat) (n i:Nat) (h4:4<=i):aX box key (n+1) i=aX box key n i ^^^ aX box key (n+1) (i-4):=by
 obtain⟨c,hc⟩:∃c,i / 4=c+1:=⟨i / 4-1,by omega⟩
 have h1:(i-4) / 4=c:=by omega
 have h2:(i-4) % 4=i % 4:=by omega
 have h3:4*(c+1)+i % 4=i:=by omega
 rw[aX,aX,hc,h1,h2,nV,h3]
def my (b:Nat->Nat):Nat->Nat:=fun i=>fX (b i)
def fV (b:Nat->Nat):Nat->Nat:=fun i=>b ((i+4*(i % 4)) % 16)
def nl (b:Nat->Nat) (i:Nat):Nat:=0 ^^^ kt 2 (b (i / 4*4+(i+0) % 4)) ^^^ kt 3 (b (i / 4*4+(i+1) % 4)) ^^^ kt 1 (b (i / 4*4+(i+2) % 4)) ^^^ kt 1 (b (i / 4*4+(i+3) % 4))
def kP (n:Nat) (b:Nat->Nat):Nat->Nat:=if n=10 then b else fun i=>nl b i
def nW (keys:Nat->Nat->Nat) (n:Nat) (b:Nat->Nat):Nat->Nat:=fun i=>b i ^^^ keys n i
def xe (keys:Nat->Nat->Nat) (n:Nat) (b:Nat->Nat):Nat->Nat:=nW keys n (kP n (fV (my b)))
def ep (keys:Nat->Nat->Nat) (b:Nat->Nat):Nat->Nat->Nat
 | 0=>nW keys 0 b
 | n+1=>xe keys (n+1) (ep keys b n)
def gn (key b:Nat->Nat):Nat->Nat:=ep (aX fX key) b 10
def br (b:Nat->Nat):Prop:=∀j,j < 16->b j < 256
theorem iE (b:Nat->Nat):br (my b):=fun j _=>fi 255 _
theorem gg {b:Nat->Nat} (h:br b):br (fV b):=fun j _=>h _ (Nat.mod_lt _ (by decide))
theorem mg {b:Nat->Nat} (n:Nat) (h:br b):br (kP n b):=fun j hj=>by
 unfold kP
 split
 ·exact h j hj
 ·exact be (be (be (be (by decide) (gj _ _)) (gj _ _)) (gj _ _)) (gj _ _)
theorem mN {keys:Nat->Nat->Nat} (n:Nat) {b:Nat->Nat} (hk:br (keys n)) (h:br b):br (nW keys n b):=fun j hj=>be (h j hj) (hk j hj)
theorem ki {keys:Nat->Nat->Nat} {b:Nat->Nat} (hk:∀n,br (keys n)) (h:br b):∀n,br (ep keys b n)
 | 0=>mN 0 (hk 0) h
 | n+1=>mN (n+1) (hk _) (mg _ (gg (iE _)))
theorem iF {key b:Nat->Nat} (hk:br key) (h:br b):br (gn key b):=ki (fun n i hi=>eK (fi 255) hk n i hi) h 10
end Go.Proofs.YtiiojpnckbglcaaGreat

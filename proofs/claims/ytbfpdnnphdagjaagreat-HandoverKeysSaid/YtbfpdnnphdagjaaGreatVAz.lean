import Derived.Laws.BitsAllLaws
set_option linter.unusedVariables false
set_option linter.unusedSimpArgs false
namespace Go.Proofs.YtbfpdnnphdagjaaGreat
open Go
def th (a:Nat):Nat:=(a*2 % 256) ^^^ (a / 128*27 % 256)
theorem aU {a b:Nat} (ha:a < 256) (hb:b < 256):a ^^^ b < 256:=Nat.xor_lt_two_pow (n:=8) ha hb
theorem lr (a:Nat):th a < 256:=aU (Nat.mod_lt _ (by decide)) (Nat.mod_lt _ (by decide))
def gG:Nat->Nat
 | 0=>1
 | i+1=>gG i ^^^ th (gG i)
theorem gJ:∀i,gG i < 256
 | 0=>by decide
 | i+1=>aU (gJ i) (lr _)
def jM:Nat->Nat->Nat->Nat->Nat
 | 0,_,_,p=>p
 | f+1,a,b,p=>if b=0 then p else jM f (th a) (b / 2) (p ^^^ (b % 2*a % 256))
def ju (a b:Nat):Nat:=jM 8 a b 0
theorem pd:∀f a b p,p < 256->jM f a b p < 256
 | 0,_,_,p,h=>h
 | f+1,a,b,p,h=>by
  rw[jM]
  split
  ·exact h
  ·exact pd f _ _ _ (aU h (Nat.mod_lt _ (by decide)))
theorem fw (a b:Nat):ju a b < 256:=pd 8 a b 0 (by decide)
theorem pL:∀f a p,jM f a 0 p=p
 | 0,_,_=>rfl
 | f+1,a,p=>by rw[jM,if_pos rfl]
theorem pX (k a b p:Nat) (hb:b < 2 ^ (k+1)) (h0:b ≠ 0):jM (k+1) a b p=jM k (th a) (b / 2) (p ^^^ (b % 2*a % 256)):=by rw[jM,if_neg h0]
def g6 (x k:Nat):Nat:=(x*2 ^ k % 256) ||| (x / 2 ^ (8-k))
theorem eL (x k:Nat) (hx:x < 256):g6 x k < 256:=by
 unfold g6
 exact Nat.or_lt_two_pow (n:=8) (Nat.mod_lt _ (by decide)) (Nat.lt_of_le_of_lt (Nat.div_le_self _ _) hx)
def qI (x:Nat):Nat:=x ^^^ g6 x 1 ^^^ g6 x 2 ^^^ g6 x 3 ^^^ g6 x 4 ^^^ 99
theorem oh (x:Nat) (hx:x < 256):qI x < 256:=by
 unfold qI
 exact aU (aU (aU (aU (aU hx (eL _ _ hx)) (eL _ _ hx)) (eL _ _ hx)) (eL _ _ hx)) (by decide)
def dU (f:Nat->Nat) (i v:Nat):Nat->Nat:=fun j=>if j=i then v else f j
theorem tu {f:Nat->Nat} {i v:Nat} (hf:∀j,f j < 256) (hv:v < 256):∀j,dU f i v j < 256:=fun j=>by
 unfold dU
 split
 ·exact hv
 ·exact hf j
def jr:Nat->Nat->Nat
 | 0=>dU (fun _=>0) 0 (qI 0)
 | k+1=>dU (jr k) (gG k) (qI (gG ((255-k) % 255)))
def mC:Nat->Nat->Nat
 | 0=>dU (fun _=>0) (qI 0) 0
 | k+1=>dU (mC k) (qI (gG ((255-k) % 255))) (gG k)
theorem eA:∀k j,jr k j < 256
 | 0=>tu (fun _=>by decide) (oh 0 (by decide))
 | k+1=>tu (eA k) (oh _ (gJ _))
def fv:Nat->Nat:=jr 255
def uP:Nat->Nat:=mC 255
theorem vB:∀i,i < 255->gG i ≠ 0:=by decide +kernel
theorem sa:fv 0=99:=by
 have h:∀k,k<=255->jr k 0=99:=by
  intro k
  induction k with
  | zero=>intro _;decide
  | succ k ih=>
   intro hk;rw[jr,dU,if_neg (fun e=>vB k (by omega) e.symm)]
   exact ih (by omega)
 exact h 255 (Nat.le_refl _)
def mg (box:Nat->Nat) (L:Nat->Nat) (p:Nat):Nat->Nat->Nat
 | 0,r=>if r=0 then L 0 ^^^ box (L 13) ^^^ p else L r ^^^ box (L (12+(r+1) % 4))
 | c+1,r=>L (4*(c+1)+r) ^^^ mg box L p c r
def tB:Nat->Nat
 | 0=>1
 | n+1=>th (tB n)
theorem nN:∀n,tB n < 256
 | 0=>by decide
 | n+1=>lr _
def aX (box:Nat->Nat) (key:Nat->Nat):Nat->Nat->Nat
 | 0,i=>key i
 | n+1,i=>mg box (aX box key n) (tB n) (i / 4) (i % 4)
theorem pE {box L:Nat->Nat} {p:Nat} (hb:∀j,box j < 256) (hL:∀j,j < 16->L j < 256) (hp:p < 256):∀c r,c < 4->r < 4->mg box L p c r < 256
 | 0,r,_,hr=>by
  rw[mg]
  split
  ·exact aU (aU (hL 0 (by decide)) (hb _)) hp
  ·exact aU (hL r (by omega)) (hb _)
 | c+1,r,hc,hr=>by
  rw[mg]
  exact aU (hL _ (by omega)) (pE hb hL hp c r (by omega) hr)
theorem ef {box key:Nat->Nat} (hb:∀j,box j < 256) (hk:∀j,j < 16->key j < 256):∀n i,i < 16->aX box key n i < 256
 | 0,i,hi=>hk i hi
 | n+1,i,hi=>pE hb (ef hb hk n) (nN n) _ _ (by omega) (by omega)
theorem ng (box key:Nat->Nat) (n:Nat):aX box key (n+1) 0=aX box key n 0 ^^^ box (aX box key n 13) ^^^ tB n:=by simp[aX,mg]
theorem od (box key:Nat->Nat) (n i:Nat) (h0:i ≠ 0) (h4:i < 4):aX box key (n+1) i=aX box key n i ^^^ box (aX box key n (12+(i+1) % 4)):=by
 rw[aX,Nat.div_eq_of_lt h4,Nat.mod_eq_of_lt h4,mg,if_neg h0]
theorem oD (box key:Nat->Nat) (n i:Nat) (h4:4<=i):aX box key (n+1) i=aX box key n i ^^^ aX box key (n+1) (i-4):=by
 obtain⟨c,hc⟩:∃c,i / 4=c+1:=⟨i / 4-1,by omega⟩
 have h1:(i-4) / 4=c:=by omega
 have h2:(i-4) % 4=i % 4:=by omega
 have h3:4*(c+1)+i % 4=i:=by omega
 rw[aX,aX,hc,h1,h2,mg,h3]
def kV (b:Nat->Nat):Nat->Nat:=fun i=>fv (b i)
def fc (b:Nat->Nat):Nat->Nat:=fun i=>b ((i+4*(i % 4)) % 16)
def mT (b:Nat->Nat) (i:Nat):Nat:=0 ^^^ ju 2 (b (i / 4*4+(i+0) % 4)) ^^^ ju 3 (b (i / 4*4+(i+1) % 4)) ^^^ ju 1 (b (i / 4*4+(i+2) % 4)) ^^^ ju 1 (b (i / 4*4+(i+3) % 4))
def jT (n:Nat) (b:Nat->Nat):Nat->Nat:=if n=10 then b else fun i=>mT b i
def mD (keys:Nat->Nat->Nat) (n:Nat) (b:Nat->Nat):Nat->Nat:=fun i=>b i ^^^ keys n i
def vr (keys:Nat->Nat->Nat) (n:Nat) (b:Nat->Nat):Nat->Nat:=mD keys n (jT n (fc (kV b)))
def dO (keys:Nat->Nat->Nat) (b:Nat->Nat):Nat->Nat->Nat
 | 0=>mD keys 0 b
 | n+1=>vr keys (n+1) (dO keys b n)
def eI (key b:Nat->Nat):Nat->Nat:=dO (aX fv key) b 10
def bf (b:Nat->Nat):Prop:=∀j,j < 16->b j < 256
theorem gi (b:Nat->Nat):bf (kV b):=fun j _=>eA 255 _
theorem fj {b:Nat->Nat} (h:bf b):bf (fc b):=fun j _=>h _ (Nat.mod_lt _ (by decide))
theorem lD {b:Nat->Nat} (n:Nat) (h:bf b):bf (jT n b):=fun j hj=>by
 unfold jT
 split
 ·exact h j hj
 ·exact aU (aU (aU (aU (by decide) (fw _ _)) (fw _ _)) (fw _ _)) (fw _ _)
theorem lG {keys:Nat->Nat->Nat} (n:Nat) {b:Nat->Nat} (hk:bf (keys n)) (h:bf b):bf (mD keys n b):=fun j hj=>aU (h j hj) (hk j hj)
theorem jx {keys:Nat->Nat->Nat} {b:Nat->Nat} (hk:∀n,bf (keys n)) (h:bf b):∀n,bf (dO keys b n)
 | 0=>lG 0 (hk 0) h
 | n+1=>lG (n+1) (hk _) (lD _ (fj (gi _)))
theorem gB {key b:Nat->Nat} (hk:bf key) (h:bf b):bf (eI key b):=jx (fun n i hi=>ef (eA 255) hk n i hi) h 10
end Go.Proofs.YtbfpdnnphdagjaaGreat

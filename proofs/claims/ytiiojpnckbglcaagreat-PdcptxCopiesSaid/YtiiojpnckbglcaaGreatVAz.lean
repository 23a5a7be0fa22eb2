import Derived.Laws.BitsAllLaws
set_option linter.unusedVariables false
set_option linter.unusedSimpArgs false
namespace Go.Proofs.YtiiojpnckbglcaaGreat
open Go
def qm (a:Nat):Nat:=(a*2 % 256) ^^^ (a / 128*27 % 256)
theorem aV {a b:Nat} (ha:a < 256) (hb:b < 256):a ^^^ b < 256:=Nat.xor_lt_two_pow (n:=8) ha hb
theorem kI (a:Nat):qm a < 256:=aV (Nat.mod_lt _ (by decide)) (Nat.mod_lt _ (by decide))
def ga:Nat->Nat
 | 0=>1
 | i+1=>ga i ^^^ qm (ga i)
theorem gk:∀i,ga i < 256
 | 0=>by decide
 | i+1=>aV (gk i) (kI _)
def jt:Nat->Nat->Nat->Nat->Nat
 | 0,_,_,p=>p
 | f+1,a,b,p=>if b=0 then p else jt f (qm a) (b / 2) (p ^^^ (b % 2*a % 256))
def iZ (a b:Nat):Nat:=jt 8 a b 0
theorem nE:∀f a b p,p < 256->jt f a b p < 256
 | 0,_,_,p,h=>h
 | f+1,a,b,p,h=>by
  rw[jt]
  split
  ·exact h
  ·exact nE f _ _ _ (aV h (Nat.mod_lt _ (by decide)))
theorem eS (a b:Nat):iZ a b < 256:=nE 8 a b 0 (by decide)
theorem n8:∀f a p,jt f a 0 p=p
 | 0,_,_=>rfl
 | f+1,a,p=>by rw[jt,if_pos rfl]
theorem oG (k a b p:Nat) (hb:b < 2 ^ (k+1)) (h0:b ≠ 0):jt (k+1) a b p=jt k (qm a) (b / 2) (p ^^^ (b % 2*a % 256)):=by rw[jt,if_neg h0]
def gN (x k:Nat):Nat:=(x*2 ^ k % 256) ||| (x / 2 ^ (8-k))
theorem eC (x k:Nat) (hx:x < 256):gN x k < 256:=by
 unfold gN
 exact Nat.or_lt_two_pow (n:=8) (Nat.mod_lt _ (by decide)) (Nat.lt_of_le_of_lt (Nat.div_le_self _ _) hx)
def oj (x:Nat):Nat:=x ^^^ gN x 1 ^^^ gN x 2 ^^^ gN x 3 ^^^ gN x 4 ^^^ 99
theorem m5 (x:Nat) (hx:x < 256):oj x < 256:=by
 unfold oj
 exact aV (aV (aV (aV (aV hx (eC _ _ hx)) (eC _ _ hx)) (eC _ _ hx)) (eC _ _ hx)) (by decide)
def dK (f:Nat->Nat) (i v:Nat):Nat->Nat:=fun j=>if j=i then v else f j
theorem qo {f:Nat->Nat} {i v:Nat} (hf:∀j,f j < 256) (hv:v < 256):∀j,dK f i v j < 256:=fun j=>by
 unfold dK
 split
 ·exact hv
 ·exact hf j
def iH:Nat->Nat->Nat
 | 0=>dK (fun _=>0) 0 (oj 0)
 | k+1=>dK (iH k) (ga k) (oj (ga ((255-k) % 255)))
def lM:Nat->Nat->Nat
 | 0=>dK (fun _=>0) (oj 0) 0
 | k+1=>dK (lM k) (oj (ga ((255-k) % 255))) (ga k)
theorem el:∀k j,iH k j < 256
 | 0=>qo (fun _=>by decide) (m5 0 (by decide))
 | k+1=>qo (el k) (m5 _ (gk _))
def eR:Nat->Nat:=iH 255
def sw:Nat->Nat:=lM 255
theorem sH:∀i,i < 255->ga i ≠ 0:=by decide +kernel
theorem qW:eR 0=99:=by
 have h:∀k,k<=255->iH k 0=99:=by
  intro k
  induction k with
  | zero=>intro _;decide
  | succ k ih=>
   intro hk;rw[iH,dK,if_neg (fun e=>sH k (by omega) e.symm)]
   exact ih (by omega)
 exact h 255 (Nat.le_refl _)
def ln (box:Nat->Nat) (L:Nat->Nat) (p:Nat):Nat->Nat->Nat
 | 0,r=>if r=0 then L 0 ^^^ box (L 13) ^^^ p else L r ^^^ box (L (12+(r+1) % 4))
 | c+1,r=>L (4*(c+1)+r) ^^^ ln box L p c r
def ra:Nat->Nat
 | 0=>1
 | n+1=>qm (ra n)
theorem m7:∀n,ra n < 256
 | 0=>by decide
 | n+1=>kI _
def aT (box:Nat->Nat) (key:Nat->Nat):Nat->Nat->Nat
 | 0,i=>key i
 | n+1,i=>ln box (aT box key n) (ra n) (i / 4) (i % 4)
theorem nS {box L:Nat->Nat} {p:Nat} (hb:∀j,box j < 256) (hL:∀j,j < 16->L j < 256) (hp:p < 256):∀c r,c < 4->r < 4->ln box L p c r < 256
 | 0,r,_,hr=>by
  rw[ln]
  split
  ·exact aV (aV (hL 0 (by decide)) (hb _)) hp
  ·exact aV (hL r (by omega)) (hb _)
 | c+1,r,hc,hr=>by
  rw[ln]
  exact aV (hL _ (by omega)) (nS hb hL hp c r (by omega) hr)
theorem dO {box key:Nat->Nat} (hb:∀j,box j < 256) (hk:∀j,j < 16->key j < 256):∀n i,i < 16->aT box key n i < 256
 | 0,i,hi=>hk i hi
 | n+1,i,hi=>nS hb (dO hb hk n) (m7 n) _ _ (by omega) (by omega)
theorem kY (box key:Nat->Nat) (n:Nat):aT box key (n+1) 0=aT box key n 0 ^^^ box (aT box key n 13) ^^^ ra n:=by simp[aT,ln]
theorem ma (box key:Nat->Nat) (n i:Nat) (h0:i ≠ 0) (h4:i < 4):aT box key (n+1) i=aT box key n i ^^^ box (aT box key n (12+(i+1) % 4)):=by
 rw[aT,Nat.div_eq_of_lt h4,Nat.mod_eq_of_lt h4,ln,if_neg h0]
theorem mJ (box key:Nat->Nat) (n i:Nat) (h4:4<=i):aT box key (n+1) i=aT box key n i ^^^ aT box key (n+1) (i-4):=by
 obtain⟨c,hc⟩:∃c,i / 4=c+1:=⟨i / 4-1,by omega⟩
 have h1:(i-4) / 4=c:=by omega
 have h2:(i-4) % 4=i % 4:=by omega
 have h3:4*(c+1)+i % 4=i:=by omega
 rw[aT,aT,hc,h1,h2,ln,h3]
def ke (b:Nat->Nat):Nat->Nat:=fun i=>eR (b i)
def eK (b:Nat->Nat):Nat->Nat:=fun i=>b ((i+4*(i % 4)) % 16)
def lg (b:Nat->Nat) (i:Nat):Nat:=0 ^^^ iZ 2 (b (i / 4*4+(i+0) % 4)) ^^^ iZ 3 (b (i / 4*4+(i+1) % 4)) ^^^ iZ 1 (b (i / 4*4+(i+2) % 4)) ^^^ iZ 1 (b (i / 4*4+(i+3) % 4))
def jj (n:Nat) (b:Nat->Nat):Nat->Nat:=if n=10 then b else fun i=>lg b i
def l0 (keys:Nat->Nat->Nat) (n:Nat) (b:Nat->Nat):Nat->Nat:=fun i=>b i ^^^ keys n i
def tk (keys:Nat->Nat->Nat) (n:Nat) (b:Nat->Nat):Nat->Nat:=l0 keys n (jj n (eK (ke b)))
def dE (keys:Nat->Nat->Nat) (b:Nat->Nat):Nat->Nat->Nat
 | 0=>l0 keys 0 b
 | n+1=>tk keys (n+1) (dE keys b n)
def eZ (key b:Nat->Nat):Nat->Nat:=dE (aT eR key) b 10
def bc (b:Nat->Nat):Prop:=∀j,j < 16->b j < 256
theorem fQ (b:Nat->Nat):bc (ke b):=fun j _=>el 255 _
theorem eV {b:Nat->Nat} (h:bc b):bc (eK b):=fun j _=>h _ (Nat.mod_lt _ (by decide))
theorem ki {b:Nat->Nat} (n:Nat) (h:bc b):bc (jj n b):=fun j hj=>by
 unfold jj
 split
 ·exact h j hj
 ·exact aV (aV (aV (aV (by decide) (eS _ _)) (eS _ _)) (eS _ _)) (eS _ _)
theorem kk {keys:Nat->Nat->Nat} (n:Nat) {b:Nat->Nat} (hk:bc (keys n)) (h:bc b):bc (l0 keys n b):=fun j hj=>aV (h j hj) (hk j hj)
theorem iT {keys:Nat->Nat->Nat} {b:Nat->Nat} (hk:∀n,bc (keys n)) (h:bc b):∀n,bc (dE keys b n)
 | 0=>kk 0 (hk 0) h
 | n+1=>kk (n+1) (hk _) (ki _ (eV (fQ _)))
theorem fL {key b:Nat->Nat} (hk:bc key) (h:bc b):bc (eZ key b):=iT (fun n i hi=>dO (el 255) hk n i hi) h 10
end Go.Proofs.YtiiojpnckbglcaaGreat

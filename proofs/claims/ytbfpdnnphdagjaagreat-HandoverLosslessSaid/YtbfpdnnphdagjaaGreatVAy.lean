import Derived.Laws.BitsAllLaws
set_option linter.unusedVariables false
set_option linter.unusedSimpArgs false
namespace Go.Proofs.YtbfpdnnphdagjaaGreat
open Go
def vV (a:Nat):Nat:=(a*2 % 256) ^^^ (a / 128*27 % 256)
theorem bh {a b:Nat} (ha:a < 256) (hb:b < 256):a ^^^ b < 256:=Nat.xor_lt_two_pow (n:=8) ha hb
theorem nB (a:Nat):vV a < 256:=bh (Nat.mod_lt _ (by decide)) (Nat.mod_lt _ (by decide))
def iX:Nat->Nat
 | 0=>1
 | i+1=>iX i ^^^ vV (iX i)
theorem je:∀i,iX i < 256
 | 0=>by decide
 | i+1=>bh (je i) (nB _)
def lW:Nat->Nat->Nat->Nat->Nat
 | 0,_,_,p=>p
 | f+1,a,b,p=>if b=0 then p else lW f (vV a) (b / 2) (p ^^^ (b % 2*a % 256))
def lJ (a b:Nat):Nat:=lW 8 a b 0
theorem sr:∀f a b p,p < 256->lW f a b p < 256
 | 0,_,_,p,h=>h
 | f+1,a,b,p,h=>by
  rw[lW]
  split
  ·exact h
  ·exact sr f _ _ _ (bh h (Nat.mod_lt _ (by decide)))
theorem gI (a b:Nat):lJ a b < 256:=sr 8 a b 0 (by decide)
theorem tp:∀f a p,lW f a 0 p=p
 | 0,_,_=>rfl
 | f+1,a,p=>by rw[lW,if_pos rfl]
theorem ud (k a b p:Nat) (hb:b < 2 ^ (k+1)) (h0:b ≠ 0):lW (k+1) a b p=lW k (vV a) (b / 2) (p ^^^ (b % 2*a % 256)):=by rw[lW,if_neg h0]
def jq (x k:Nat):Nat:=(x*2 ^ k % 256) ||| (x / 2 ^ (8-k))
theorem gj (x k:Nat) (hx:x < 256):jq x k < 256:=by
 unfold jq
 exact Nat.or_lt_two_pow (n:=8) (Nat.mod_lt _ (by decide)) (Nat.lt_of_le_of_lt (Nat.div_le_self _ _) hx)
def uA (x:Nat):Nat:=x ^^^ jq x 1 ^^^ jq x 2 ^^^ jq x 3 ^^^ jq x 4 ^^^ 99
theorem qS (x:Nat) (hx:x < 256):uA x < 256:=by
 unfold uA
 exact bh (bh (bh (bh (bh hx (gj _ _ hx)) (gj _ _ hx)) (gj _ _ hx)) (gj _ _ hx)) (by decide)
def eX (f:Nat->Nat) (i v:Nat):Nat->Nat:=fun j=>if j=i then v else f j
theorem uP {f:Nat->Nat} {i v:Nat} (hf:∀j,f j < 256) (hv:v < 256):∀j,eX f i v j < 256:=fun j=>by
 unfold eX
 split
 ·exact hv
 ·exact hf j
def lL:Nat->Nat->Nat
 | 0=>eX (fun _=>0) 0 (uA 0)
 | k+1=>eX (lL k) (iX k) (uA (iX ((255-k) % 255)))
def pL:Nat->Nat->Nat
 | 0=>eX (fun _=>0) (uA 0) 0
 | k+1=>eX (pL k) (uA (iX ((255-k) % 255))) (iX k)
theorem fJ:∀k j,lL k j < 256
 | 0=>uP (fun _=>by decide) (qS 0 (by decide))
 | k+1=>uP (fJ k) (qS _ (je _))
def gz:Nat->Nat:=lL 255
def zm:Nat->Nat:=pL 255
theorem zP:∀i,i < 255->iX i ≠ 0:=by decide +kernel
theorem ve:gz 0=99:=by
 have h:∀k,k<=255->lL k 0=99:=by
  intro k
  induction k with
  | zero=>intro _;decide
  | succ k ih=>
   intro hk;rw[lL,eX,if_neg (fun e=>zP k (by omega) e.symm)]
   exact ih (by omega)
 exact h 255 (Nat.le_refl _)
def qG (box:Nat->Nat) (L:Nat->Nat) (p:Nat):Nat->Nat->Nat
 | 0,r=>if r=0 then L 0 ^^^ box (L 13) ^^^ p else L r ^^^ box (L (12+(r+1) % 4))
 | c+1,r=>L (4*(c+1)+r) ^^^ qG box L p c r
def xR:Nat->Nat
 | 0=>1
 | n+1=>vV (xR n)
theorem rY:∀n,xR n < 256
 | 0=>by decide
 | n+1=>nB _
def bm (box:Nat->Nat) (key:Nat->Nat):Nat->Nat->Nat
 | 0,i=>key i
 | n+1,i=>qG box (bm box key n) (xR n) (i / 4) (i % 4)
theorem se {box L:Nat->Nat} {p:Nat} (hb:∀j,box j < 256) (hL:∀j,j < 16->L j < 256) (hp:p < 256):∀c r,c < 4->r < 4->qG box L p c r < 256
 | 0,r,_,hr=>by
  rw[qG]
  split
  ·exact bh (bh (hL 0 (by decide)) (hb _)) hp
  ·exact bh (hL r (by omega)) (hb _)
 | c+1,r,hc,hr=>by
  rw[qG]
  exact bh (hL _ (by omega)) (se hb hL hp c r (by omega) hr)
theorem fk {box key:Nat->Nat} (hb:∀j,box j < 256) (hk:∀j,j < 16->key j < 256):∀n i,i < 16->bm box key n i < 256
 | 0,i,hi=>hk i hi
 | n+1,i,hi=>se hb (fk hb hk n) (rY n) _ _ (by omega) (by omega)
theorem p8 (box key:Nat->Nat) (n:Nat):bm box key (n+1) 0=bm box key n 0 ^^^ box (bm box key n 13) ^^^ xR n:=by simp[bm,qG]
theorem rh (box key:Nat->Nat) (n i:Nat) (h0:i ≠ 0) (h4:i < 4):bm box key (n+1) i=bm box key n i ^^^ box (bm box key n (12+(i+1) % 4)):=by
 rw[bm,Nat.div_eq_of_lt h4,Nat.mod_eq_of_lt h4,qG,if_neg h0]
theorem qH (box key:Nat->Nat) (n i:Nat) (h4:4<=i):bm box key (n+1) i=bm box key n i ^^^ bm box key (n+1) (i-4):=by
 obtain⟨c,hc⟩:∃c,i / 4=c+1:=⟨i / 4-1,by omega⟩
 have h1:(i-4) / 4=c:=by omega
 have h2:(i-4) % 4=i % 4:=by omega
 have h3:4*(c+1)+i % 4=i:=by omega
 rw[bm,bm,hc,h1,h2,qG,h3]
def n7 (b:Nat->Nat):Nat->Nat:=fun i=>gz (b i)
def gg (b:Nat->Nat):Nat->Nat:=fun i=>b ((i+4*(i % 4)) % 16)
def pI (b:Nat->Nat) (i:Nat):Nat:=0 ^^^ lJ 2 (b (i / 4*4+(i+0) % 4)) ^^^ lJ 3 (b (i / 4*4+(i+1) % 4)) ^^^ lJ 1 (b (i / 4*4+(i+2) % 4)) ^^^ lJ 1 (b (i / 4*4+(i+3) % 4))
def lT (n:Nat) (b:Nat->Nat):Nat->Nat:=if n=10 then b else fun i=>pI b i
def oN (keys:Nat->Nat->Nat) (n:Nat) (b:Nat->Nat):Nat->Nat:=fun i=>b i ^^^ keys n i
def An (keys:Nat->Nat->Nat) (n:Nat) (b:Nat->Nat):Nat->Nat:=oN keys n (lT n (gg (n7 b)))
def eL (keys:Nat->Nat->Nat) (b:Nat->Nat):Nat->Nat->Nat
 | 0=>oN keys 0 b
 | n+1=>An keys (n+1) (eL keys b n)
def fO (key b:Nat->Nat):Nat->Nat:=eL (bm gz key) b 10
def bw (b:Nat->Nat):Prop:=∀j,j < 16->b j < 256
theorem iD (b:Nat->Nat):bw (n7 b):=fun j _=>fJ 255 _
theorem gJ {b:Nat->Nat} (h:bw b):bw (gg b):=fun j _=>h _ (Nat.mod_lt _ (by decide))
theorem nY {b:Nat->Nat} (n:Nat) (h:bw b):bw (lT n b):=fun j hj=>by
 unfold lT
 split
 ·exact h j hj
 ·exact bh (bh (bh (bh (by decide) (gI _ _)) (gI _ _)) (gI _ _)) (gI _ _)
theorem ot {keys:Nat->Nat->Nat} (n:Nat) {b:Nat->Nat} (hk:bw (keys n)) (h:bw b):bw (oN keys n b):=fun j hj=>bh (h j hj) (hk j hj)
theorem kF {keys:Nat->Nat->Nat} {b:Nat->Nat} (hk:∀n,bw (keys n)) (h:bw b):∀n,bw (eL keys b n)
 | 0=>ot 0 (hk 0) h
 | n+1=>ot (n+1) (hk _) (nY _ (gJ (iD _)))
theorem iB {key b:Nat->Nat} (hk:bw key) (h:bw b):bw (fO key b):=kF (fun n i hi=>fk (fJ 255) hk n i hi) h 10
end Go.Proofs.YtbfpdnnphdagjaaGreat

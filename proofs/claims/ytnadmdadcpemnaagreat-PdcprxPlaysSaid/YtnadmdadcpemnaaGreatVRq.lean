import Derived.Test.YtnadmdadcpemnaaGreatVAq
namespace Go.Proofs.YtnadmdadcpemnaaGreat
set_option linter.unusedVariables false
set_option linter.unusedSimpArgs false
open Go
def rm1 (a b:Nat):Nat->Nat
 | 0=>0
 | i+1=>if b / 2 ^ i % 2=1 then rm1 a b i ^^^ (a*2 ^ i) else rm1 a b i
def rm2:Nat->Nat->Nat
 | 0,p=>p
 | k+1,p=>rm2 k (if p / 2 ^ (8+k) % 2=1 then p ^^^ (283*2 ^ k) else p)
def rMul (a b:Nat):Nat:=rm2 7 (rm1 a b 8) % 256
theorem rMul_two:∀x,x < 256->rMul 2 x=gmul 2 x:=by decide +kernel
theorem rMul_three:∀x,x < 256->rMul 3 x=gmul 3 x:=by decide +kernel
theorem rMul_dbl:∀x,x < 256->rMul x 2=dbl x:=by decide +kernel
theorem gmul_one:∀x,x < 256->gmul 1 x=x:=by decide +kernel
def rInv (a:Nat):Nat->Nat×Nat
 | 0=>(a,1)
 | i+1=>let q:=rInv a i;let s:=rMul q.1 q.1;(s,rMul q.2 s)
def rBit (v i:Nat):Nat:=(v / 2 ^ i ^^^ v / 2 ^ ((i+4) % 8) ^^^ v / 2 ^ ((i+5) % 8) ^^^ v / 2 ^ ((i+6) % 8) ^^^ v / 2 ^ ((i+7) % 8) ^^^ 99 / 2 ^ i)
def rOut (v:Nat):Nat->Nat
 | 0=>0
 | i+1=>rOut v i ||| (rBit v i % 2*2 ^ i % 256)
def rSBox (b:Nat):Nat:=rOut (rInv b 7).2 8
theorem rSBox_zero:rSBox 0=99:=by decide +kernel
theorem rSBox_pw3:∀k,k < 255->rSBox (pw3 k)=aff (pw3 ((255-k) % 255)):=by decide +kernel
theorem pw3_inj:∀i,i < 255->∀j,j < i->pw3 j ≠ pw3 i:=by decide +kernel
theorem pw3_onto:∀b,b < 256->b ≠ 0->∃k,k < 255/\pw3 k=b:=by decide +kernel
theorem sbx_pw3 (k:Nat) (hk:k < 255):sbx (pw3 k)=aff (pw3 ((255-k) % 255)):=by
 have h:∀n,k < n->n<=255->boxK n (pw3 k)=aff (pw3 ((255-k) % 255)):=by
  intro n
  induction n with
  | zero=>intro h;omega
  | succ n ih=>
   intro h1 h2;rw[boxK,upd];by_cases e:k=n
   ·subst e;rw[if_pos rfl]
   ·rw[if_neg (pw3_inj n (by omega) k (by omega))]
    exact ih (by omega) (by omega)
 exact h 255 hk (Nat.le_refl _)
theorem rSBox_eq (b:Nat) (hb:b < 256):rSBox b=sbx b:=by
 by_cases h0:b=0
 ·subst h0;rw[rSBox_zero,sbx_zero]
 ·obtain⟨k,hk,rfl⟩:=pw3_onto b hb h0;rw[rSBox_pw3 k hk,sbx_pw3 k hk]
end Go.Proofs.YtnadmdadcpemnaaGreat

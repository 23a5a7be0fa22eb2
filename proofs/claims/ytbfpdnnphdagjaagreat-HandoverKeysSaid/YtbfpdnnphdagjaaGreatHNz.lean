import Derived.Test.YtbfpdnnphdagjaaGreatWz
set_option linter.unusedVariables false
set_option linter.unusedSimpArgs false
namespace Go.Proofs.YtbfpdnnphdagjaaGreat
def cE (z:Nat->Int) (j:Nat):Bool:=(z (j / 8)).toNat / 2 ^ (7-j % 8) % 2 == 1
def ax (b:Nat->Bool):Nat->Nat
 | 0=>0
 | n+1=>if b n then n+1 else ax b n
theorem fR (b:Nat->Bool):∀n,ax b n<=n
 | 0=>Nat.le_refl _
 | n+1=>by
  unfold ax
  split
  ·exact Nat.le_refl _
  ·exact Nat.le_succ_of_le (fR b n)
theorem fE (b:Nat->Bool):∀n j,ax b n<=j->j < n->b j=false
 | 0,j,_,h=>absurd h (by omega)
 | n+1,j,h1,h2=>by
  unfold ax at h1
  split at h1
  ·omega
  ·rename_i hn;by_cases hj:j=n
   ·subst hj;simpa using hn
   ·exact fE b n j h1 (by omega)
theorem iv (b:Nat->Bool):∀n,0 < ax b n->b (ax b n-1)=true
 | 0,h=>absurd h (by simp[ax])
 | n+1,h=>by
  unfold ax at h ⊢
  split at h
  ·rename_i hn;rw[if_pos hn];simpa using hn
  ·rename_i hn;rw[if_neg hn]
   exact iv b n h
theorem eW (b:Nat->Bool) (n m:Nat) (hm:m<=n) (h0:0 < m->b (m-1)=true) (h1:∀j,m<=j->j < n->b j=false):ax b n=m:=by
 have h2:=fR b n;rcases Nat.lt_trichotomy (ax b n) m with h | h | h
 ·have:=fE b n (m-1) (by omega) (by omega);rw[h0 (by omega)]at this
  cases this
 ·exact h
 ·have:=iv b n (by omega);rw[h1 _ (by omega) (by omega)]at this
  cases this
def cw (b:Nat->Bool):Nat->Nat->Nat
 | 0,_=>0
 | i+1,j=>cw b i j+if i / 8=j/\b i=true then 2 ^ (7-i % 8) else 0
theorem gK (b:Nat->Bool):∀i j,i<=8*j->cw b i j=0
 | 0,_,_=>rfl
 | i+1,j,h=>by
  unfold cw;rw[gK b i j (by omega),if_neg (by omega)]
theorem fQ (b:Nat->Bool) (i j:Nat) (h:b i=false):cw b (i+1) j=cw b i j:=by
 show cw b i j+_=_;rw[if_neg (by simp[h]),Nat.add_zero]
theorem m6 (b:Nat->Bool) (i j:Nat) (h:i / 8 ≠ j):cw b (i+1) j=cw b i j:=by
 show cw b i j+_=_;rw[if_neg (by simp[h]),Nat.add_zero]
theorem kE (b:Nat->Bool) (i:Nat) (h:b i=true):cw b (i+1) (i / 8)=cw b i (i / 8)+2 ^ (7-i % 8):=by
 show cw b i (i / 8)+_=_;rw[if_pos ⟨rfl,h⟩]
theorem i4 (b:Nat->Bool):∀i j,ax b i<=8*j->cw b i j=0
 | 0,_,_=>rfl
 | i+1,j,h=>by
  by_cases cE:b i=true
  ·unfold ax at h;rw[if_pos cE]at h
   exact gK b _ _ h
  ·unfold ax at h;rw[if_neg cE]at h;rw[fQ b i j (by simpa using cE)]
   exact i4 b i j h
theorem jm (b:Nat->Bool) (j:Nat):∀r,r<=8->∃q,q < 2 ^ r/\cw b (8*j+r) j=q*2 ^ (8-r)
 | 0,_=>⟨0,by simp,(gK b _ _ (by omega)).trans (Nat.zero_mul _).symm⟩
 | r+1,h=>by
  obtain⟨q,hq,e⟩:=jm b j r (by omega);have e1:(8*j+r) / 8=j:=by omega
  have e2:(8*j+r) % 8=r:=by omega
  have e3:2 ^ (8-r)=2*2 ^ (8-(r+1)):=by
   rw[show 8-r=(8-(r+1))+1 by omega,Nat.pow_succ];omega
  show ∃q,q < 2 ^ (r+1)/\cw b (8*j+r+1) j=_;by_cases cE:b (8*j+r)=true
  ·refine⟨2*q+1,by rw[Nat.pow_succ];omega,?_⟩;have:=kE b (8*j+r) cE;rw[e1,e2]at this;rw[this,e,e3,show 7-r=8-(r+1) by omega];rw[Nat.add_mul,Nat.one_mul,<-Nat.mul_assoc,Nat.mul_comm q 2]
  ·refine⟨2*q,by rw[Nat.pow_succ];omega,?_⟩;rw[fQ b _ _ (by simpa using cE),e,e3,<-Nat.mul_assoc,Nat.mul_comm q 2]
end Go.Proofs.YtbfpdnnphdagjaaGreat

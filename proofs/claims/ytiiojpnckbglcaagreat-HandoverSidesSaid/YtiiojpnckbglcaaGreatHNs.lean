import Derived.Test.YtiiojpnckbglcaaGreatWs
set_option linter.unusedVariables false
set_option linter.unusedSimpArgs false
namespace Go.Proofs.YtiiojpnckbglcaaGreat
def bO (z:Nat->Int) (j:Nat):Bool:=(z (j / 8)).toNat / 2 ^ (7-j % 8) % 2 == 1
def aC (b:Nat->Bool):Nat->Nat
 | 0=>0
 | n+1=>if b n then n+1 else aC b n
theorem gS (b:Nat->Bool):∀n,aC b n<=n
 | 0=>Nat.le_refl _
 | n+1=>by
  unfold aC
  split
  ·exact Nat.le_refl _
  ·exact Nat.le_succ_of_le (gS b n)
theorem gD (b:Nat->Bool):∀n j,aC b n<=j->j < n->b j=false
 | 0,j,_,h=>absurd h (by omega)
 | n+1,j,h1,h2=>by
  unfold aC at h1
  split at h1
  ·omega
  ·rename_i hn;by_cases hj:j=n
   ·subst hj;simpa using hn
   ·exact gD b n j h1 (by omega)
theorem jk (b:Nat->Bool):∀n,0 < aC b n->b (aC b n-1)=true
 | 0,h=>absurd h (by simp[aC])
 | n+1,h=>by
  unfold aC at h ⊢
  split at h
  ·rename_i hn;rw[if_pos hn];simpa using hn
  ·rename_i hn;rw[if_neg hn]
   exact jk b n h
theorem fG (b:Nat->Bool) (n m:Nat) (hm:m<=n) (h0:0 < m->b (m-1)=true) (h1:∀j,m<=j->j < n->b j=false):aC b n=m:=by
 have h2:=gS b n;rcases Nat.lt_trichotomy (aC b n) m with h | h | h
 ·have:=gD b n (m-1) (by omega) (by omega);rw[h0 (by omega)]at this
  cases this
 ·exact h
 ·have:=jk b n (by omega);rw[h1 _ (by omega) (by omega)]at this
  cases this
def cQ (b:Nat->Bool):Nat->Nat->Nat
 | 0,_=>0
 | i+1,j=>cQ b i j+if i / 8=j/\b i=true then 2 ^ (7-i % 8) else 0
theorem iV (b:Nat->Bool):∀i j,i<=8*j->cQ b i j=0
 | 0,_,_=>rfl
 | i+1,j,h=>by
  unfold cQ;rw[iV b i j (by omega),if_neg (by omega)]
theorem gU (b:Nat->Bool) (i j:Nat) (h:b i=false):cQ b (i+1) j=cQ b i j:=by
 show cQ b i j+_=_;rw[if_neg (by simp[h]),Nat.add_zero]
theorem oC (b:Nat->Bool) (i j:Nat) (h:i / 8 ≠ j):cQ b (i+1) j=cQ b i j:=by
 show cQ b i j+_=_;rw[if_neg (by simp[h]),Nat.add_zero]
theorem lX (b:Nat->Bool) (i:Nat) (h:b i=true):cQ b (i+1) (i / 8)=cQ b i (i / 8)+2 ^ (7-i % 8):=by
 show cQ b i (i / 8)+_=_;rw[if_pos ⟨rfl,h⟩]
theorem jP (b:Nat->Bool):∀i j,aC b i<=8*j->cQ b i j=0
 | 0,_,_=>rfl
 | i+1,j,h=>by
  by_cases bO:b i=true
  ·unfold aC at h;rw[if_pos bO]at h
   exact iV b _ _ h
  ·unfold aC at h;rw[if_neg bO]at h;rw[gU b i j (by simpa using bO)]
   exact jP b i j h
theorem kF (b:Nat->Bool) (j:Nat):∀r,r<=8->∃q,q < 2 ^ r/\cQ b (8*j+r) j=q*2 ^ (8-r)
 | 0,_=>⟨0,by simp,(iV b _ _ (by omega)).trans (Nat.zero_mul _).symm⟩
 | r+1,h=>by
  obtain⟨q,hq,e⟩:=kF b j r (by omega);have e1:(8*j+r) / 8=j:=by omega
  have e2:(8*j+r) % 8=r:=by omega
  have e3:2 ^ (8-r)=2*2 ^ (8-(r+1)):=by
   rw[show 8-r=(8-(r+1))+1 by omega,Nat.pow_succ];omega
  show ∃q,q < 2 ^ (r+1)/\cQ b (8*j+r+1) j=_;by_cases bO:b (8*j+r)=true
  ·refine⟨2*q+1,by rw[Nat.pow_succ];omega,?_⟩;have:=lX b (8*j+r) bO;rw[e1,e2]at this;rw[this,e,e3,show 7-r=8-(r+1) by omega];rw[Nat.add_mul,Nat.one_mul,<-Nat.mul_assoc,Nat.mul_comm q 2]
  ·refine⟨2*q,by rw[Nat.pow_succ];omega,?_⟩;rw[gU b _ _ (by simpa using bO),e,e3,<-Nat.mul_assoc,Nat.mul_comm q 2]
end Go.Proofs.YtiiojpnckbglcaaGreat

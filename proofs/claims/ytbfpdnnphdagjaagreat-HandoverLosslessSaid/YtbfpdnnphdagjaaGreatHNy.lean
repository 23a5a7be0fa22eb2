import Derived.Test.YtbfpdnnphdagjaaGreatWy
set_option linter.unusedVariables false
set_option linter.unusedSimpArgs false
namespace Go.Proofs.YtbfpdnnphdagjaaGreat
def b9 (z:Nat->Int) (j:Nat):Bool:=(z (j / 8)).toNat / 2 ^ (7-j % 8) % 2 == 1
def aq (b:Nat->Bool):Nat->Nat
 | 0=>0
 | n+1=>if b n then n+1 else aq b n
theorem dH (b:Nat->Bool):∀n,aq b n<=n
 | 0=>Nat.le_refl _
 | n+1=>by
  unfold aq
  split
  ·exact Nat.le_refl _
  ·exact Nat.le_succ_of_le (dH b n)
theorem eV (b:Nat->Bool):∀n j,aq b n<=j->j < n->b j=false
 | 0,j,_,h=>absurd h (by omega)
 | n+1,j,h1,h2=>by
  unfold aq at h1
  split at h1
  ·omega
  ·rename_i hn;by_cases hj:j=n
   ·subst hj;simpa using hn
   ·exact eV b n j h1 (by omega)
theorem eG (b:Nat->Bool):∀n,0 < aq b n->b (aq b n-1)=true
 | 0,h=>absurd h (by simp[aq])
 | n+1,h=>by
  unfold aq at h ⊢
  split at h
  ·rename_i hn;rw[if_pos hn];simpa using hn
  ·rename_i hn;rw[if_neg hn]
   exact eG b n h
theorem et (b:Nat->Bool) (n m:Nat) (hm:m<=n) (h0:0 < m->b (m-1)=true) (h1:∀j,m<=j->j < n->b j=false):aq b n=m:=by
 have h2:=dH b n;rcases Nat.lt_trichotomy (aq b n) m with h | h | h
 ·have:=eV b n (m-1) (by omega) (by omega);rw[h0 (by omega)]at this
  cases this
 ·exact h
 ·have:=eG b n (by omega);rw[h1 _ (by omega) (by omega)]at this
  cases this
def bu (b:Nat->Bool):Nat->Nat->Nat
 | 0,_=>0
 | i+1,j=>bu b i j+if i / 8=j/\b i=true then 2 ^ (7-i % 8) else 0
theorem fx (b:Nat->Bool):∀i j,i<=8*j->bu b i j=0
 | 0,_,_=>rfl
 | i+1,j,h=>by
  unfold bu;rw[fx b i j (by omega),if_neg (by omega)]
theorem ik (b:Nat->Bool):∀d i j,8*j+8<=i->bu b (i+d) j=bu b i j
 | 0,_,_,_=>rfl
 | d+1,i,j,h=>by
  show bu b (i+d+1) j=_;unfold bu;rw[ik b d i j h,if_neg (by omega),Nat.add_zero]
  cases i<;>rfl
theorem gZ (b:Nat->Bool) (i j:Nat) (h:b i=false):bu b (i+1) j=bu b i j:=by
 show bu b i j+_=_;rw[if_neg (by simp[h]),Nat.add_zero]
theorem pO (b:Nat->Bool) (i j:Nat) (h:i / 8 ≠ j):bu b (i+1) j=bu b i j:=by
 show bu b i j+_=_;rw[if_neg (by simp[h]),Nat.add_zero]
theorem mi (b:Nat->Bool) (i:Nat) (h:b i=true):bu b (i+1) (i / 8)=bu b i (i / 8)+2 ^ (7-i % 8):=by
 show bu b i (i / 8)+_=_;rw[if_pos ⟨rfl,h⟩]
theorem kQ (b:Nat->Bool):∀i j,aq b i<=8*j->bu b i j=0
 | 0,_,_=>rfl
 | i+1,j,h=>by
  by_cases b9:b i=true
  ·unfold aq at h;rw[if_pos b9]at h
   exact fx b _ _ h
  ·unfold aq at h;rw[if_neg b9]at h;rw[gZ b i j (by simpa using b9)]
   exact kQ b i j h
theorem dF (b:Nat->Bool) (j:Nat):∀r,r<=8->∃q,q < 2 ^ r/\bu b (8*j+r) j=q*2 ^ (8-r)
 | 0,_=>⟨0,by simp,(fx b _ _ (by omega)).trans (Nat.zero_mul _).symm⟩
 | r+1,h=>by
  obtain⟨q,hq,e⟩:=dF b j r (by omega);have e1:(8*j+r) / 8=j:=by omega
  have e2:(8*j+r) % 8=r:=by omega
  have e3:2 ^ (8-r)=2*2 ^ (8-(r+1)):=by
   rw[show 8-r=(8-(r+1))+1 by omega,Nat.pow_succ];omega
  show ∃q,q < 2 ^ (r+1)/\bu b (8*j+r+1) j=_;by_cases b9:b (8*j+r)=true
  ·refine⟨2*q+1,by rw[Nat.pow_succ];omega,?_⟩;have:=mi b (8*j+r) b9;rw[e1,e2]at this;rw[this,e,e3,show 7-r=8-(r+1) by omega];rw[Nat.add_mul,Nat.one_mul,<-Nat.mul_assoc,Nat.mul_comm q 2]
  ·refine⟨2*q,by rw[Nat.pow_succ];omega,?_⟩;rw[gZ b _ _ (by simpa using b9),e,e3,<-Nat.mul_assoc,Nat.mul_comm q 2]
theorem vY (b:Nat->Bool) (i j:Nat):bu b i j < 256:=by
 by_cases h1:i<=8*j
 ·rw[fx b i j h1];decide
 ·by_cases h2:8*j+8<=i
  ·obtain⟨q,hq,e⟩:=dF b j 8 (by omega);have:=ik b (i-(8*j+8)) (8*j+8) j (by omega);rw[show 8*j+8+(i-(8*j+8))=i by omega]at this;rw[this,e];omega
  ·obtain⟨q,hq,e⟩:=dF b j (i-8*j) (by omega);rw[show 8*j+(i-8*j)=i by omega]at e;rw[e];have:=Nat.mul_lt_mul_of_pos_right (k:=2 ^ (8-(i-8*j))) hq (Nat.two_pow_pos _);rw[<-Nat.pow_add,show i-8*j+(8-(i-8*j))=8 by omega]at this
   exact this
theorem jm (b:Nat->Bool) (j:Nat):∀r,r<=8->∀t,t < r->bu b (8*j+r) j / 2 ^ (7-t) % 2=if b (8*j+t) then 1 else 0
 | 0,_,t,h=>absurd h (by omega)
 | r+1,hr,t,ht=>by
  obtain⟨q,hq,e⟩:=dF b j r (by omega);have e1:(8*j+r) / 8=j:=by omega
  have e2:(8*j+r) % 8=r:=by omega
  have ep:bu b (8*j+(r+1)) j=bu b (8*j+r) j+if b (8*j+r)=true then 2 ^ (7-r) else 0:=by
   show bu b (8*j+r) j+(if (8*j+r) / 8=j/\b (8*j+r)=true then 2 ^ (7-(8*j+r) % 8) else 0)=_;rw[e1,e2];simp
  have e3:2 ^ (8-r)=2*2 ^ (7-r):=by
   rw[show 8-r=(7-r)+1 by omega,Nat.pow_succ];omega
  by_cases htr:t=r
  ·subst htr;rw[ep,e,e3,<-Nat.mul_assoc]
   split
   ·rw[<-Nat.succ_mul,Nat.mul_div_cancel _ (Nat.two_pow_pos _)];omega
   ·rw[Nat.add_zero,Nat.mul_div_cancel _ (Nat.two_pow_pos _)];omega
  ·have ih:=jm b j r (by omega) t (by omega);rw[ep];have ed:2 ^ (7-t)=2 ^ (8-r)*2 ^ (r-1-t):=by rw[<-Nat.pow_add];congr 1;omega
   rw[e,ed,<-Nat.div_div_eq_div_mul,Nat.mul_div_cancel _ (Nat.two_pow_pos _)]at ih;rw[e,ed,<-Nat.div_div_eq_div_mul];have:(q*2 ^ (8-r)+if b (8*j+r)=true then 2 ^ (7-r) else 0) / 2 ^ (8-r)=q:=by
    split
    ·rw[Nat.mul_comm,Nat.mul_add_div (Nat.two_pow_pos _),Nat.div_eq_of_lt (by rw[e3];have:=Nat.two_pow_pos (7-r);omega),Nat.add_zero]
    ·rw[Nat.add_zero,Nat.mul_div_cancel _ (Nat.two_pow_pos _)]
   rw[this];exact ih
end Go.Proofs.YtbfpdnnphdagjaaGreat

import Derived.Test.YtbfpdnnphdagjaaGreatMCFz
import Derived.Test.YtbfpdnnphdagjaaGreatMRBz
import Derived.Test.YtbfpdnnphdagjaaGreatMZAz
import Derived.Deep.MidRow
set_option linter.unusedVariables false
set_option linter.unusedSimpArgs false
namespace Go.Proofs.YtbfpdnnphdagjaaGreat
open Go.RowKit
attribute [local go_sem ↓] Go.wp_at_zero Go.wp_at_succ
def pv (cf:aq) (p:Option Addr×Nat):Value:=.slice p.1 (aY cf 1) p.2
theorem ii {s:RS} (h:s.run=false):s.expire=([],s):=by unfold RS.expire;rw[if_pos (.inl h)]
end Go.Proofs.YtbfpdnnphdagjaaGreat
namespace Go.Proofs.YtbfpdnnphdagjaaGreat
open Go.RowKit
theorem sM (cf:aq) (ct n:Nat) (z:Nat->Nat):bn cf ct n z 0=128+ct / 256 % 16:=by
 unfold bn bj ic;rw[if_pos (by omega),if_pos rfl]
theorem uY (cf:aq) (ct n:Nat) (z:Nat->Nat):bn cf ct n z 1=ct % 256:=by
 unfold bn bj ic;rw[if_pos (by omega),if_neg (by omega)]
theorem vm (cf:aq) (ct n:Nat) (z:Nat->Nat) (j:Nat):bn cf ct n z (2+j)=eE (nf cf.key) ct cf.b.toNat cf.d.toNat (bX cf ct n z) j:=by
 unfold bn bj;rw[if_neg (by omega),show 2+j-2=j by omega]
theorem sw (cf:aq) (ct n:Nat) (z:Nat->Nat):eq (bn cf ct n z)=ct % 4096:=by
 unfold eq;rw[sM,uY];omega
theorem cR (cf:aq) (ct n:Nat) (z:Nat->Nat) (j:Nat):dk cf ct (bn cf ct n z) j=bX cf ct n z j:=by
 unfold dk;rw[show(fun j=>bn cf ct n z (2+j))=eE (nf cf.key) ct cf.b.toNat cf.d.toNat (bX cf ct n z)from funext fun j=>vm cf ct n z j]
 exact qG _ _ _ _ _ _
def vN (cf:aq) (ct n:Nat) (z:Nat->Nat):SV:=⟨ct,n,fun j=>((bX cf ct n z j:Nat):Int)⟩
theorem qO {d:Int} {ct:Nat} (h0:0<=d) (h1:d<=1000) (h2:ct<=1000):bD d ((ct % 4096:Nat):Int)=some (ct:Int):=by
 have hh:gc d ((ct % 4096:Nat):Int)=0:=by
  unfold gc;rw[if_neg (by omega),if_neg (by omega)];omega
 unfold bD;rw[hh,if_pos (by decide)];congr 1;omega
theorem vF (x y:SV) (r:List SV) (h:x.ct < y.ct):cI x (y :: r)=x :: y :: r:=by
 show(if x.ct < y.ct then x :: y :: r else y :: cI x r)=_;rw[if_pos h]
theorem uv (e:SV) (r:List SV) (d:Int) (h:e.ct=d):aJ (e :: r) d=(e :: (aJ r (d+1)).1,(aJ r (d+1)).2):=by
 show(if e.ct=d then (e :: (aJ r (d+1)).1,(aJ r (d+1)).2) else ([],e :: r,d))=_;rw[if_pos h]
theorem t8 (e:SV) (r:List SV) (d:Int) (h:e.ct ≠ d):aJ (e :: r) d=([],e :: r,d):=by
 show(if e.ct=d then (e :: (aJ r (d+1)).1,(aJ r (d+1)).2) else ([],e :: r,d))=_;rw[if_neg h]
theorem mN {s:RS} (h1:s.run=false) (h2:¬(0 < s.C.ro/\s.deliver < s.next)):s.timer=s:=by
 unfold RS.timer;rw[kW (fun h=>by rw[h1]at h;exact absurd h.1 (by decide)),ed (fun h=>h2 ⟨h.2.1,h.2.2⟩)]
theorem qF (L:List SV) (k:Int) (h:∀e,e∈L->e.ct ≠ k):¬stored L k=true:=by
 unfold stored;simp only[List.any_eq_true,decide_eq_true_eq,not_exists,not_and]
 exact h
end Go.Proofs.YtbfpdnnphdagjaaGreat

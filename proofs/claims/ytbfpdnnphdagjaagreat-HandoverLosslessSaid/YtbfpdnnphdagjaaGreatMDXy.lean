import Derived.Test.YtbfpdnnphdagjaaGreatMCFy
import Derived.Test.YtbfpdnnphdagjaaGreatMRBy
import Derived.Test.YtbfpdnnphdagjaaGreatMZAy
import Derived.Deep.MidRow
set_option linter.unusedVariables false
set_option linter.unusedSimpArgs false
namespace Go.Proofs.YtbfpdnnphdagjaaGreat
open Go.RowKit
attribute [local go_sem ↓] Go.wp_at_zero Go.wp_at_succ
def pv (cf:ax) (p:Option Addr×Nat):Value:=.slice p.1 (bi cf 1) p.2
theorem jD {s:RS} (h:s.run=false):s.expire=([],s):=by unfold RS.expire;rw[if_pos (.inl h)]
end Go.Proofs.YtbfpdnnphdagjaaGreat
namespace Go.Proofs.YtbfpdnnphdagjaaGreat
open Go.RowKit
theorem vW (cf:ax) (ct n:Nat) (z:Nat->Nat):bG cf ct n z 0=128+ct / 256 % 16:=by
 unfold bG bD jE;rw[if_pos (by omega),if_pos rfl]
theorem Al (cf:ax) (ct n:Nat) (z:Nat->Nat):bG cf ct n z 1=ct % 256:=by
 unfold bG bD jE;rw[if_pos (by omega),if_neg (by omega)]
theorem zG (cf:ax) (ct n:Nat) (z:Nat->Nat) (j:Nat):bG cf ct n z (2+j)=fy (nf cf.key) ct cf.b.toNat cf.d.toNat (cJ cf ct n z) j:=by
 unfold bG bD;rw[if_neg (by omega),show 2+j-2=j by omega]
theorem uI (cf:ax) (ct n:Nat) (z:Nat->Nat):fI (bG cf ct n z)=ct % 4096:=by
 unfold fI;rw[vW,Al];omega
theorem dG (cf:ax) (ct n:Nat) (z:Nat->Nat) (j:Nat):eC cf ct (bG cf ct n z) j=cJ cf ct n z j:=by
 unfold eC;rw[show(fun j=>bG cf ct n z (2+j))=fy (nf cf.key) ct cf.b.toNat cf.d.toNat (cJ cf ct n z)from funext fun j=>zG cf ct n z j]
 exact tM _ _ _ _ _ _
def AE (cf:ax) (ct n:Nat) (z:Nat->Nat):SV:=⟨ct,n,fun j=>((cJ cf ct n z j:Nat):Int)⟩
theorem ur {d:Int} {ct:Nat} (h0:0<=d) (h1:d<=1000) (h2:ct<=1000):bR d ((ct % 4096:Nat):Int)=some (ct:Int):=by
 have hh:iN d ((ct % 4096:Nat):Int)=0:=by
  unfold iN;rw[if_neg (by omega),if_neg (by omega)];omega
 unfold bR;rw[hh,if_pos (by decide)];congr 1;omega
theorem Aq (x y:SV) (r:List SV) (h:x.ct < y.ct):dq x (y :: r)=x :: y :: r:=by
 show(if x.ct < y.ct then x :: y :: r else y :: dq x r)=_;rw[if_pos h]
theorem yD (e:SV) (r:List SV) (d:Int) (h:e.ct=d):aU (e :: r) d=(e :: (aU r (d+1)).1,(aU r (d+1)).2):=by
 show(if e.ct=d then (e :: (aU r (d+1)).1,(aU r (d+1)).2) else ([],e :: r,d))=_;rw[if_pos h]
theorem y6 (e:SV) (r:List SV) (d:Int) (h:e.ct ≠ d):aU (e :: r) d=([],e :: r,d):=by
 show(if e.ct=d then (e :: (aU r (d+1)).1,(aU r (d+1)).2) else ([],e :: r,d))=_;rw[if_neg h]
theorem oV {s:RS} (h1:s.run=false) (h2:¬(0 < s.C.ro/\s.deliver < s.next)):s.timer=s:=by
 unfold RS.timer;rw[nr (fun h=>by rw[h1]at h;exact absurd h.1 (by decide)),fg (fun h=>h2 ⟨h.2.1,h.2.2⟩)]
theorem ue (L:List SV) (k:Int) (h:∀e,e∈L->e.ct ≠ k):¬stored L k=true:=by
 unfold stored;simp only[List.any_eq_true,decide_eq_true_eq,not_exists,not_and]
 exact h
end Go.Proofs.YtbfpdnnphdagjaaGreat

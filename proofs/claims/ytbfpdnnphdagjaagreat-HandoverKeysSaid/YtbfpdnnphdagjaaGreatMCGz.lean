import Derived.Test.YtbfpdnnphdagjaaGreatMDXz
import Derived.Test.YtbfpdnnphdagjaaGreatMDVAz
import Derived.Test.YtbfpdnnphdagjaaGreatVLz
import Derived.Test.YtbfpdnnphdagjaaGreatVAz
import Derived.Test.YtbfpdnnphdagjaaGreatMVMz
import Derived.Test.YtbfpdnnphdagjaaGreatMVSz
import Derived.Test.YtbfpdnnphdagjaaGreatMYAz
import Derived.Test.YtbfpdnnphdagjaaGreatMRBz
import Derived.Test.YtbfpdnnphdagjaaGreatRLz
import Derived.Test.YtbfpdnnphdagjaaGreatMZAz
import Derived.Test.YtbfpdnnphdagjaaGreatMCFz
import Derived.BigRegion
import Derived.Deep.MidRow
set_option linter.unusedVariables false
set_option linter.unusedSimpArgs false
namespace Go.Proofs.YtbfpdnnphdagjaaGreat
open Go.RowKit
section
variable {key z z':Nat->Nat} {n:Nat}
theorem nr (h:∀j,j < n->z j=z' j) (q:Nat):bT z n q=bT z' n q:=by
 funext j
 unfold bT
 split
 ·exact h _ (by assumption)
 ·rfl
theorem js (h:∀j,j < n->z j=z' j):∀q,jy key z n q=jy key z' n q
 | 0=>rfl
 | q+1=>by
  show eI key (bM (jy key z n q) (nh key z n q))=eI key (bM (jy key z' n q) (nh key z' n q));rw[js h q];unfold nh;rw[nr h q]
end
theorem ni {key:Nat->Nat} {ct b d:Nat} {z z':Nat->Nat} {n:Nat} (h:∀j,j < n->z j=z' j):cK key ct b d z n=cK key ct b d z' n:=by
 have e:d9 key (bj (bP (jZ ct b d)) 8 z) (8+n)=d9 key (bj (bP (jZ ct b d)) 8 z') (8+n):=by
  unfold d9;refine js (fun j hj=>?_) _;unfold bj
  split
  ·rfl
  ·exact h _ (by omega)
 unfold cK;rw[e]
theorem pW {M:Nat} (h:M < 4294967296):dH M 0*16777216+dH M 1*65536+dH M 2*256+dH M 3=M:=by
 unfold dH;simp only[Nat.mul_zero,Nat.sub_zero,Nat.reduceMul,Nat.reduceSub,Nat.reducePow];omega
theorem kN (cf:aq) (n:Nat):aI cf (aY cf n)=n/\cf.least<=aY cf n/\aY cf n<=n+6/\(cf.ig=true->aY cf n=n+6):=by
 unfold aI aY jf aq.least
 cases hig:cf.ig
 ·exact⟨by simp,by simp,by simp;omega,fun h=>by cases h⟩
 ·exact⟨by simp;omega,by simp;omega,by simp;omega,fun _=>by simp;omega⟩
theorem kw (cf:aq) (ct n:Nat) (z:Nat->Nat) (j:Nat) (hj:j < n):bX cf ct n z j=z j:=by
 unfold bX bj;rw[if_pos hj]
theorem tq (cf:aq) (hok:cf.Ok) (ct n:Nat) (z:Nat->Nat) (hz:∀j,j < n->z j < 256):bK cf ct (aY cf n) (bn cf ct n z)=true:=by
 unfold bK
 cases hig:cf.ig
 ·rfl
 ·obtain⟨hd,_⟩:=kN cf n;have hw:gj cf ct (aY cf n) (bn cf ct n z)=cK (nf cf.code) ct cf.b.toNat cf.d.toNat (bj (ic ct) 2 z) (2+n):=by
   unfold gj;rw[hd];refine ni (fun j hj=>?_);unfold bj
   split
   ·unfold bn bj;rw[if_pos (by assumption)]
   ·rw[cR,kw cf ct n z _ (by omega)]
  have hl:cK (nf cf.code) ct cf.b.toNat cf.d.toNat (bj (ic ct) 2 z) (2+n) < 4294967296:=nq ct _ _ (fun j hj=>dG hok.code hj) (fq (fun j _=>lJ ct j) hz);have hp:∀j,bX cf ct n z (n+j)=dH (cK (nf cf.code) ct cf.b.toNat cf.d.toNat (bj (ic ct) 2 z) (2+n)) j:=fun j=>by
   unfold bX;rw[show bj z n (dH (cK (nf cf.code) ct cf.b.toNat cf.d.toNat (bj (ic ct) 2 z) (2+n))) (n+j)=dH (cK (nf cf.code) ct cf.b.toNat cf.d.toNat (bj (ic ct) 2 z) (2+n)) (n+j-n)from if_neg (by omega),show n+j-n=j by omega]
  have hh:pU cf ct (aY cf n) (bn cf ct n z)=cK (nf cf.code) ct cf.b.toNat cf.d.toNat (bj (ic ct) 2 z) (2+n):=by
   unfold pU;simp only;rw[hd,cR,cR,cR,cR,hp,hp,hp,hp]
   exact pW hl
  rw[hw,hh];simp
theorem kM (s:RS) (hck:s.C.Ok) (ct n:Nat) (z:Nat->Nat) (h1:1<=n) (h9:n<=9000) (hz8:∀j,j < n->z j < 256) (hc:bD s.deliver ((ct % 4096:Nat):Int)=some (ct:Int)) :
  s.take (aY s.C n) (bn s.C ct n z)=if stored s.L ct=true\/(ct:Int) < s.deliver then (0,false,{ s with dup:=s.dup+1 }) else (0,true,{ s with L:=cI (vN s.C ct n z) s.L,next:=max s.next ((ct:Int)+1) }):=by
 obtain⟨hd,hl,hm,_⟩:=kN s.C n;have hz:(fun j=>((dk s.C ct (bn s.C ct n z) j:Nat):Int))=fun j=>((bX s.C ct n z j:Nat):Int):=funext fun j=>by rw[cR]
 have hco:¬bK s.C ct (aY s.C n) (bn s.C ct n z)=false:=by rw[tq s.C hck ct n z hz8];decide
 unfold RS.take;rw[if_neg (by omega),if_neg (by rw[sM];omega),sw,hc];simp only[Int.toNat_natCast];rw[if_neg (by omega),if_neg hco,hd,hz]
 split
 ·rfl
 ·rw[if_neg (by omega),if_neg (by omega)]
  rfl
theorem lu {s:RS} {t:Int} (ht:¬1073741824<=t) (hr:s.run=false) (hck:s.C.Ok) (ct n:Nat) (z:Nat->Nat) (h1:1<=n) (h9:n<=9000) (hz8:∀j,j < n->z j < 256) (hc:bD s.deliver ((ct % 4096:Nat):Int)=some (ct:Int)) (hd:stored s.L ct=true\/(ct:Int) < s.deliver) :
  s.receive t (aY s.C n) (bn s.C ct n z)=([],0,{ s.at_ t with dup:=s.dup+1 }):=by
 have he:(s.at_ t).expire=([],s.at_ t):=ii hr;have hx:=kM (s.at_ t) hck ct n z h1 h9 hz8 hc;rw[if_pos (show stored (s.at_ t).L ct=true\/(ct:Int) < (s.at_ t).deliver from hd)]at hx;unfold RS.receive;rw[if_neg ht];simp only[he];rw[show aY s.C n=aY (s.at_ t).C n from rfl,show bn s.C ct n z=bn (s.at_ t).C ct n z from rfl,hx]
 rfl
theorem lw {s:RS} {t:Int} (ht:¬1073741824<=t) (hr:s.run=false) (hck:s.C.Ok) (ct n:Nat) (z:Nat->Nat) (h1:1<=n) (h9:n<=9000) (hz8:∀j,j < n->z j < 256) (hc:bD s.deliver ((ct % 4096:Nat):Int)=some (ct:Int)) (hd:¬(stored s.L ct=true\/(ct:Int) < s.deliver)) (s2:RS) (h2:s2={ s.at_ t with L:=cI (vN s.C ct n z) s.L,next:=max s.next ((ct:Int)+1) }) :
  s.receive t (aY s.C n) (bn s.C ct n z)=(s2.deliver_.1,0,s2.deliver_.2.timer):=by
 have he:(s.at_ t).expire=([],s.at_ t):=ii hr;have hx:=kM (s.at_ t) hck ct n z h1 h9 hz8 hc;rw[if_neg (show ¬(stored (s.at_ t).L ct=true\/(ct:Int) < (s.at_ t).deliver)from hd)]at hx;unfold RS.receive;rw[if_neg ht];simp only[he];rw[show aY s.C n=aY (s.at_ t).C n from rfl,show bn s.C ct n z=bn (s.at_ t).C ct n z from rfl,hx,h2]
 rfl
theorem mG (g:Nat) (C:aq) (W R:Nat->Prop) (sb ub eb:Nat) (A:Option Addr) (n c:Nat) (z:Nat->Nat) (hok:C.Ok) (hv:C.Valid) (hnc:n<=c) (hz:∀j,j < n->z j < 256):kU g C W R sb ub eb A n c z:=by
 cases hig:C.ig
 ·exact jQ g C W R sb ub eb A n c z hok hv hig hnc hz
 ·exact fun s' l' w' hC h hr hn2 ct W' hct hb=>by
   subst hC;have h6:6<=n:=by unfold aq.least at hn2;rw[hig]at hn2;simpa using hn2
   by_cases hbig:16384 < n-2
   ·exact jo g s' W R sb l' ub eb W' (h.below hb) hok hv ct hct A n c z (by omega) (.inr hbig) hnc hz (hr.next hb)
   ·exact ul g s' W R sb l' ub eb W' (h.below hb) hok hv hig ct hct A n c z h6 (by omega) hnc hz (hr.next hb)
theorem rN {s:RS} (h1:s.run=false) (h2:s.C.ro=0):s.timer=s:=mN h1 (fun h=>by rw[h2]at h;omega)
def uI (L:List SV):Prop:=L.Pairwise fun a b=>a.ct < b.ct
section
variable {cf:aq} {ms:Nat->Bool} {i:Nat} {out:List SV} {s:RS}
end
section
variable {cf:aq} {ms:Nat->Bool} {n:Nat} {vs out:List SV} {s:RS}
end
end Go.Proofs.YtbfpdnnphdagjaaGreat

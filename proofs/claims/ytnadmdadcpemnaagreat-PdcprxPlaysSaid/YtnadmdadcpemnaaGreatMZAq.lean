import Derived.Test.YtnadmdadcpemnaaGreatMTBq
import Derived.Test.YtnadmdadcpemnaaGreatMVSq
import Derived.Test.YtnadmdadcpemnaaGreatMVMq
namespace Go.Proofs.YtnadmdadcpemnaaGreat
set_option linter.unusedVariables false
set_option linter.unusedSimpArgs false
open Go.RowKit
def nf (f:Nat->Int):Nat->Nat:=fun j=>(f j).toNat
theorem nf_cast {f:Nat->Int} {n:Nat} (h:∀j,j < n->0<=f j/\f j < 256) {j:Nat} (hj:j < n):((nf f j:Nat):Int)=f j:=Int.toNat_of_nonneg (h j hj).1
theorem nf_lt {f:Nat->Int} {n:Nat} (h:∀j,j < n->0<=f j/\f j < 256) {j:Nat} (hj:j < n):nf f j < 256:=by
 have:=h j hj;unfold nf;omega
def hdB (ct:Nat):Nat->Nat:=fun j=>if j=0 then 128+ct / 256 % 16 else ct % 256
theorem hdB_lt (ct j:Nat):hdB ct j < 256:=by unfold hdB;split<;>omega
def byte4 (v j:Nat):Nat:=v / 2 ^ (24-8*j) % 256
theorem byte4_lt (v j:Nat):byte4 v j < 256:=Nat.mod_lt _ (by decide)
def plainN (cf:Cfg) (n:Nat):Nat:=if cf.ig=true then n+4 else n
def plainZ (cf:Cfg) (ct n:Nat) (z:Nat->Nat):Nat->Nat:=catF z n (byte4 (codeF (nf cf.code) ct cf.b.toNat cf.d.toNat (catF (hdB ct) 2 z) (2+n)))
theorem plainZ_lt {cf:Cfg} {ct n:Nat} {z:Nat->Nat} (hz:∀j,j < n->z j < 256) (j:Nat):plainZ cf ct n z j < 256:=by
 unfold plainZ catF
 split
 ·exact hz _ (by assumption)
 ·exact byte4_lt _ _
def pduN (cf:Cfg) (n:Nat):Nat:=2+plainN cf n
def pduZ (cf:Cfg) (ct n:Nat) (z:Nat->Nat):Nat->Nat:=catF (hdB ct) 2 (cryF (nf cf.key) ct cf.b.toNat cf.d.toNat (plainZ cf ct n z))
theorem pduZ_lt {cf:Cfg} (hk:B16 (nf cf.key)) {ct n:Nat} {z:Nat->Nat} (hz:∀j,j < n->z j < 256) (j:Nat):pduZ cf ct n z j < 256:=by
 unfold pduZ catF
 split
 ·exact hdB_lt _ _
 ·exact cryF_lt hk _ _ _ (plainZ_lt hz _)
section
variable {P:Program}
end
end Go.Proofs.YtnadmdadcpemnaaGreat
namespace Go.Proofs.YtnadmdadcpemnaaGreat
set_option linter.unusedVariables false
set_option linter.unusedSimpArgs false
open Go.RowKit
attribute [local go_sem ↓] Go.wp_at_zero Go.wp_at_succ
theorem Cfg.Ok.keyN {C:Cfg} (hok:C.Ok):B16 (nf C.key):=fun j hj=>nf_lt hok.key hj
theorem pdu_plain {cf:Cfg} {ct n:Nat} {z:Nat->Nat} (h:cf.ig=false) {j:Nat} (hj:j < n):cryF (nf cf.key) ct cf.b.toNat cf.d.toNat (plainZ cf ct n z) j=cryF (nf cf.key) ct cf.b.toNat cf.d.toNat z j:=by
 unfold cryF plainZ catF;rw[if_pos hj]
theorem sl_row {w:World} {A:Option Addr} {n c:Nat} {xs:List Value} {v:Nat->Value} (h:SL w 5 1 A n c xs) (hx:∀j,j < n->xs[j]? = some (v j)):Row w w.heap.size A n v:=fun hn=>by
 obtain⟨b,o,hA,hb⟩:=h.some_ hn
 exact⟨b,o,hA,hb,fun j hj=>(h.cell hA (by omega)).trans (hx j hj)⟩
theorem SL.drop {w:World} {e:TypeId} {sz b o n c:Nat} {xs:List Value} (h:SL w e sz (some ⟨b,o,none⟩) n c xs) (k:Nat) (hk:k<=n):SL w e sz (if c=k then some ⟨b,o,none⟩ else some ⟨b,o+k*sz,none⟩) (n-k) (c-k) (xs.drop (k*sz)):=by
 have hm:k*sz<=n*sz:=Nat.mul_le_mul_right _ hk;rcases h.at_ with ⟨h1,_⟩ | ⟨b',o',cur,h1,h2,h3,h4,h5,h6⟩
 ·cases h1
 cases h1
 refine⟨by rw[List.length_drop,h.len,Nat.sub_mul],.inr ?_⟩;have hcm:k*sz<=c*sz:=Nat.mul_le_mul_right _ (by omega);by_cases hc:c=k
 ·rw[if_pos hc];have hnk:n-k=0:=by omega
  have hck:c-k=0:=by omega
  exact⟨b,o,cur,rfl,h2,by omega,by omega,by rw[hck];omega,fun j hj=>by rw[hnk]at hj;omega⟩
 ·rw[if_neg hc];refine⟨b,o+k*sz,cur,rfl,h2,by omega,by omega,by rw[Nat.sub_mul];omega,fun j hj=>?_⟩;rw[Nat.sub_mul]at hj;rw[Nat.add_assoc,h6 _ (by omega),List.getElem?_drop]
theorem SL.setOne {w:World} {e:TypeId} {sz b o n c:Nat} {xs:List Value} (h:SL w e sz (some ⟨b,o,none⟩) n c xs) (q:Nat) (hq:q < n*sz) (v:Value):SL (w.setCell ⟨b,o+q,none⟩ v) e sz (some ⟨b,o,none⟩) n c (xs.set q v):=by
 rcases h.at_ with ⟨h1,_⟩ | ⟨b',o',cur,h1,h2,h3,h4,h5,h6⟩
 ·cases h1
 cases h1
 have hcn:n*sz<=c*sz:=Nat.mul_le_mul_right _ h3;refine⟨by rw[List.length_set,h.len],.inr ⟨b,o,_,rfl,(show Blk w b e cur from h2).set_ (o+q) v,h3,h4,by simpa using h5,fun j hj=>?_⟩⟩;by_cases hjq:j=q
 ·subst hjq;rw[List.getElem?_set_self (by rw[h.len];exact hj),Array.getElem?_setIfInBounds_self_of_lt (by omega)]
 ·rw[List.getElem?_set_ne (fun e=>hjq e.symm),Array.getElem?_setIfInBounds_ne (by omega),h6 j hj]
section
variable {w0 w w':World} {g1 g2 g3:Nat} {s1 s2 s3:TS} {N:Nat->Prop}
end
def cf5:Cfg:={ Cfg.zero with ds:=5 }
theorem cf0_lit:Cfg.zero.arr=#[.int .i64 0,.int .i64 0,.int .u8 0,.int .u8 0,.int .u8 0,.int .u8 0,.int .u8 0,.int .u8 0,.int .u8 0,.int .u8 0,.int .u8 0,.int .u8 0,.int .u8 0,.int .u8 0,.int .u8 0,.int .u8 0,.int .u8 0,.int .u8 0,.int .u8 0,.int .u8 0,.int .u8 0,.int .u8 0,.int .u8 0,.int .u8 0,.int .u8 0,.int .u8 0,.int .u8 0,.int .u8 0,.int .u8 0,.int .u8 0,.int .u8 0,.int .u8 0,.int .u8 0,.int .u8 0,.bool false,.bool false,.bool false,.int .i64 0,.int .i64 0]:=by kernel_rfl
end Go.Proofs.YtnadmdadcpemnaaGreat

import Derived.Test.YtnadmdadcpemnaaGreatMTBx
import Derived.Test.YtnadmdadcpemnaaGreatMVSx
import Derived.Test.YtnadmdadcpemnaaGreatMVMx
namespace Go.Proofs.YtnadmdadcpemnaaGreat
open Go.RowKit
set_option linter.unusedVariables false
def nf (f:Nat→Int):Nat→Nat:=fun j=>(f j).toNat
theorem nf_cast {f:Nat→Int} {n:Nat} (h:∀j,j < n→0≤f j∧f j < 256) {j:Nat} (hj:j < n):((nf f j:Nat):Int)=f j:=Int.toNat_of_nonneg (h j hj).1
theorem nf_lt {f:Nat→Int} {n:Nat} (h:∀j,j < n→0≤f j∧f j < 256) {j:Nat} (hj:j < n):nf f j < 256:=by
 have:=h j hj
 unfold nf
 omega
def hdB (ct:Nat):Nat→Nat:=fun j=>if j=0 then 128+ct / 256 % 16 else ct % 256
theorem hdB_lt (ct j:Nat):hdB ct j < 256:=by unfold hdB;split<;>omega
def byte4 (v j:Nat):Nat:=v / 2 ^ (24-8*j) % 256
theorem byte4_lt (v j:Nat):byte4 v j < 256:=Nat.mod_lt _ (by decide)
def plainN (cf:Cfg) (n:Nat):Nat:=if cf.ig=true then n+4 else n
def plainZ (cf:Cfg) (ct n:Nat) (z:Nat→Nat):Nat→Nat:=catF z n (byte4 (codeF (nf cf.code) ct cf.b.toNat cf.d.toNat (catF (hdB ct) 2 z) (2+n)))
theorem plainZ_lt {cf:Cfg} {ct n:Nat} {z:Nat→Nat} (hz:∀j,j < n→z j < 256) (j:Nat):plainZ cf ct n z j < 256:=by
 unfold plainZ catF
 split
 ·exact hz _ (by assumption)
 ·exact byte4_lt _ _
def pduN (cf:Cfg) (n:Nat):Nat:=2+plainN cf n
def pduZ (cf:Cfg) (ct n:Nat) (z:Nat→Nat):Nat→Nat:=catF (hdB ct) 2 (cryF (nf cf.key) ct cf.b.toNat cf.d.toNat (plainZ cf ct n z))
theorem pduZ_lt {cf:Cfg} (hk:B16 (nf cf.key)) {ct n:Nat} {z:Nat→Nat} (hz:∀j,j < n→z j < 256) (j:Nat):pduZ cf ct n z j < 256:=by
 unfold pduZ catF
 split
 ·exact hdB_lt _ _
 ·exact cryF_lt hk _ _ _ (plainZ_lt hz _)
section
variable {P:Program}
end
end Go.Proofs.YtnadmdadcpemnaaGreat
namespace Go.Proofs.YtnadmdadcpemnaaGreat
open Go.RowKit
set_option linter.unusedVariables false
attribute [local go_sem ↓] Go.wp_at_zero Go.wp_at_succ
theorem Cfg.Ok.keyN {C:Cfg} (hok:C.Ok):B16 (nf C.key):=fun j hj=>nf_lt hok.key hj
theorem pdu_plain {cf:Cfg} {ct n:Nat} {z:Nat→Nat} (h:cf.ig=false) {j:Nat} (hj:j < n):cryF (nf cf.key) ct cf.b.toNat cf.d.toNat (plainZ cf ct n z) j=cryF (nf cf.key) ct cf.b.toNat cf.d.toNat z j:=by
 unfold cryF plainZ catF
 rw[if_pos hj]
theorem sl_row {w:World} {A:Option Addr} {n c:Nat} {xs:List Value} {v:Nat→Value} (h:SL w 5 1 A n c xs) (hx:∀j,j < n→xs[j]? = some (v j)):Row w w.heap.size A n v:=fun hn=>by
 obtain⟨b,o,hA,hb⟩:=h.some_ hn
 exact⟨b,o,hA,hb,fun j hj=>(h.cell hA (by omega)).trans (hx j hj)⟩
end Go.Proofs.YtnadmdadcpemnaaGreat
namespace Go.Proofs.YtnadmdadcpemnaaGreat
open Go.RowKit
set_option linter.unusedVariables false
attribute [local go_sem ↓] Go.wp_at_zero Go.wp_at_succ
end Go.Proofs.YtnadmdadcpemnaaGreat
namespace Go.Proofs.YtnadmdadcpemnaaGreat
open Go.RowKit
set_option linter.unusedVariables false
attribute [local go_sem ↓] Go.wp_at_zero Go.wp_at_succ
section
variable {w0 w w':World} {g1 g2 g3:Nat} {s1 s2 s3:TS} {N:Nat→Prop}
end
def cf5:Cfg:={ Cfg.zero with ds:=5 }
theorem cf0_lit:Cfg.zero.arr=#[.int .i64 0,.int .i64 0,.int .u8 0,.int .u8 0,.int .u8 0,.int .u8 0,.int .u8 0,.int .u8 0,.int .u8 0,.int .u8 0,.int .u8 0,.int .u8 0,.int .u8 0,.int .u8 0,.int .u8 0,.int .u8 0,.int .u8 0,.int .u8 0,.int .u8 0,.int .u8 0,.int .u8 0,.int .u8 0,.int .u8 0,.int .u8 0,.int .u8 0,.int .u8 0,.int .u8 0,.int .u8 0,.int .u8 0,.int .u8 0,.int .u8 0,.int .u8 0,.int .u8 0,.int .u8 0,.bool false,.bool false,.bool false,.int .i64 0,.int .i64 0]:=by kernel_rfl
end Go.Proofs.YtnadmdadcpemnaaGreat

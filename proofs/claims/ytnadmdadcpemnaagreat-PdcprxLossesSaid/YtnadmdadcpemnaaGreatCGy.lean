import Derived.Test.YtnadmdadcpemnaaGreatMDXy
import Derived.Test.YtnadmdadcpemnaaGreatMDVAy
import Derived.Test.YtnadmdadcpemnaaGreatMRVy
namespace Go.Proofs.YtnadmdadcpemnaaGreat
open Go.RowKit
set_option linter.unusedVariables false
set_option linter.unusedSimpArgs false
section
variable {key z z':Nat→Nat} {n:Nat}
theorem blkAt_congr (h:∀j,j < n→z j=z' j) (q:Nat):blkAt z n q=blkAt z' n q:=by
 funext j
 unfold blkAt
 split
 ·exact h _ (by assumption)
 ·rfl
theorem macS_congr (h:∀j,j < n→z j=z' j):∀q,macS key z n q=macS key z' n q
 | 0=>rfl
 | q+1=>by
  show aesF key (plusB (macS key z n q) (macB key z n q))=aesF key (plusB (macS key z' n q) (macB key z' n q))
  rw[macS_congr h q]
  unfold macB
  rw[blkAt_congr h q]
end
theorem codeF_congr {key:Nat→Nat} {ct b d:Nat} {z z':Nat→Nat} {n:Nat} (h:∀j,j < n→z j=z' j):codeF key ct b d z n=codeF key ct b d z' n:=by
 have e:macF key (catF (halfB (pfx ct b d)) 8 z) (8+n)=macF key (catF (halfB (pfx ct b d)) 8 z') (8+n):=by
  unfold macF
  refine macS_congr (fun j hj=>?_) _
  unfold catF
  split
  ·rfl
  ·exact h _ (by omega)
 unfold codeF
 rw[e]
theorem byte4_sum {M:Nat} (h:M < 4294967296):byte4 M 0*16777216+byte4 M 1*65536+byte4 M 2*256+byte4 M 3=M:=by
 unfold byte4
 simp only[Nat.mul_zero,Nat.sub_zero,Nat.reduceMul,Nat.reduceSub,Nat.reducePow]
 omega
theorem pdu_least (cf:Cfg) (n:Nat):dataN cf (pduN cf n)=n∧cf.least≤pduN cf n∧pduN cf n≤n+6∧(cf.ig=true→pduN cf n=n+6):=by
 unfold dataN pduN plainN Cfg.least
 cases hig:cf.ig
 ·exact⟨by simp,by simp,by simp;omega,fun h=>by cases h⟩
 ·exact⟨by simp;omega,by simp;omega,by simp;omega,fun _=>by simp;omega⟩
theorem plainZ_at (cf:Cfg) (ct n:Nat) (z:Nat→Nat) (j:Nat) (hj:j < n):plainZ cf ct n z j=z j:=by
 unfold plainZ catF
 rw[if_pos hj]
theorem code_pdu (cf:Cfg) (hok:cf.Ok) (ct n:Nat) (z:Nat→Nat) (hz:∀j,j < n→z j < 256):codeOk cf ct (pduN cf n) (pduZ cf ct n z)=true:=by
 unfold codeOk
 cases hig:cf.ig
 ·rfl
 ·obtain⟨hd,_⟩:=pdu_least cf n
  have hw:wantM cf ct (pduN cf n) (pduZ cf ct n z)=codeF (nf cf.code) ct cf.b.toNat cf.d.toNat (catF (hdB ct) 2 z) (2+n):=by
   unfold wantM
   rw[hd]
   refine codeF_congr (fun j hj=>?_)
   unfold catF
   split
   ·unfold pduZ catF
    rw[if_pos (by assumption)]
   ·rw[dataZ_back,plainZ_at cf ct n z _ (by omega)]
  have hl:codeF (nf cf.code) ct cf.b.toNat cf.d.toNat (catF (hdB ct) 2 z) (2+n) < 4294967296:=codeF_lt ct _ _ (fun j hj=>nf_lt hok.code hj) (catF_lt (fun j _=>hdB_lt ct j) hz)
  have hp:∀j,plainZ cf ct n z (n+j)=byte4 (codeF (nf cf.code) ct cf.b.toNat cf.d.toNat (catF (hdB ct) 2 z) (2+n)) j:=fun j=>by
   unfold plainZ
   rw[show catF z n (byte4 (codeF (nf cf.code) ct cf.b.toNat cf.d.toNat (catF (hdB ct) 2 z) (2+n))) (n+j)=byte4 (codeF (nf cf.code) ct cf.b.toNat cf.d.toNat (catF (hdB ct) 2 z) (2+n)) (n+j-n)from if_neg (by omega),show n+j-n=j by omega]
  have hh:hasM cf ct (pduN cf n) (pduZ cf ct n z)=codeF (nf cf.code) ct cf.b.toNat cf.d.toNat (catF (hdB ct) 2 z) (2+n):=by
   unfold hasM
   simp only
   rw[hd,dataZ_back,dataZ_back,dataZ_back,dataZ_back,hp,hp,hp,hp]
   exact byte4_sum hl
  rw[hw,hh]
  simp
theorem take_pduI (s:RS) (hck:s.C.Ok) (ct n:Nat) (z:Nat→Nat) (h1:1≤n) (h9:n≤9000) (hz8:∀j,j < n→z j < 256) (hc:cntOf s.deliver ((ct % 4096:Nat):Int)=some (ct:Int)) :
  s.take (pduN s.C n) (pduZ s.C ct n z)=if stored s.L ct=true∨(ct:Int) < s.deliver then (0,false,{ s with dup:=s.dup+1 }) else (0,true,{ s with L:=insV (svP s.C ct n z) s.L,next:=max s.next ((ct:Int)+1) }):=by
 obtain⟨hd,hl,hm,_⟩:=pdu_least s.C n
 have hz:(fun j=>((dataZ s.C ct (pduZ s.C ct n z) j:Nat):Int))=fun j=>((plainZ s.C ct n z j:Nat):Int):=funext fun j=>by rw[dataZ_back]
 have hco:¬codeOk s.C ct (pduN s.C n) (pduZ s.C ct n z)=false:=by rw[code_pdu s.C hck ct n z hz8];decide
 unfold RS.take
 rw[if_neg (by omega),if_neg (by rw[pduZ_0];omega),snOf_pdu,hc]
 simp only[Int.toNat_natCast]
 rw[if_neg (by omega),if_neg hco,hd,hz]
 split
 ·rfl
 ·rw[if_neg (by omega),if_neg (by omega)]
  rfl
theorem dataAll_any (g:Nat) (C:Cfg) (W R:Nat→Prop) (sb ub eb:Nat) (A:Option Addr) (n c:Nat) (z:Nat→Nat) (hok:C.Ok) (hv:C.Valid) (hnc:n≤c) (hz:∀j,j < n→z j < 256):DataAll g C W R sb ub eb A n c z:=by
 cases hig:C.ig
 ·exact dataAll_plain g C W R sb ub eb A n c z hok hv hig hnc hz
 ·exact fun s' l' w' hC h hr hn2 ct W' hct hb=>by
   subst hC
   have h6:6≤n:=by unfold Cfg.least at hn2;rw[hig]at hn2;simpa using hn2
   by_cases hbig:16384 < n-2
   ·exact data_plain g s' W R sb l' ub eb W' (h.below hb) hok hv ct hct A n c z (by omega) (.inr hbig) hnc hz (hr.next hb)
   ·exact data_ig g s' W R sb l' ub eb W' (h.below hb) hok hv hig ct hct A n c z h6 (by omega) hnc hz (hr.next hb)
theorem recv_pdu (g:Nat) (s:RS) (W R:Nat→Prop) (sb:Nat) (l:List SE) (ub eb:Nat) (w:World) (h:RxM w g s W R sb l ub eb) (hok:s.C.Ok) (hv:s.C.Valid) (hcm:s.C.cm=false) (hl:l.length≤250) (hdup:s.dup < 4611686018427387903) (t:Int)
  (A:Option Addr) (m c:Nat) (ct:Nat) (z:Nat→Nat) (h1:1≤m) (h9:m≤9000) (hz:∀j,j < m→z j < 256) (hmc:pduN s.C m≤c) (hr:Row w w.heap.size A (pduN s.C m) (fun j=>.int .u8 ((pduZ s.C ct m z j:Nat):Int))) (hA:∀a,A=some a→¬W a.block) :
  Calls Tryz.prog 11 #[.pointer (some ⟨g,0,none⟩),.int .i64 t,.slice A (pduN s.C m) c] w (RecvO g s W R sb ub eb t (pduN s.C m) (pduZ s.C ct m z) w):=by
 obtain⟨_,_,hm6,hig⟩:=pdu_least s.C m
 have hzz:∀j,j < pduN s.C m→pduZ s.C ct m z j < 256:=fun j _=>pduZ_lt hok.keyN hz j
 exact receive_ok g s W R sb l ub eb w h hok hcm ⟨hv.2.2.2.2.2.1,hv.2.2.2.2.2.2⟩ hl hdup t A (pduN s.C m) c _ (by omega) hmc hzz hr (fun a ha _=>hA a ha) (dataAll_any g s.C W R sb ub eb A _ c _ hok hv hmc hzz)
theorem rpdu_any (cf:Cfg) (hok:cf.Ok) (hv:cf.Valid) (ct:Nat) (hct:ct < 4294967296) (A:Option Addr) (n c:Nat) (z:Nat→Nat) (hp1:1≤n) (hp9:n≤9000) (w:World) (hr:Row w w.heap.size A n (fun j=>.int .u8 ((z j:Nat):Int))) (hz:∀j,j < n→z j < 256) :
  Calls Tryz.prog 12 #[.agg cf.arr,.int .u32 ct,.slice A n c] w (PduC cf ct n z w):=by
 cases hig:cf.ig
 ·exact rpdu_plain cf hok hv hig ct hct A n c z hp1 hp9 w hr hz
 ·exact rpdu_ig cf hok hv hig ct hct A n c z hp1 hp9 w hr hz
end Go.Proofs.YtnadmdadcpemnaaGreat

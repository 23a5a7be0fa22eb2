import Derived.Test.YtbfpdnnphdagjaaGreatMZAy
import Derived.Test.YtbfpdnnphdagjaaGreatMDXy
import Derived.Test.YtbfpdnnphdagjaaGreatMDVAy
import Derived.Test.YtbfpdnnphdagjaaGreatMVJy
import Derived.Test.YtbfpdnnphdagjaaGreatVAy
import Derived.Test.YtbfpdnnphdagjaaGreatMVMy
import Derived.Test.YtbfpdnnphdagjaaGreatMVSy
import Derived.Test.YtbfpdnnphdagjaaGreatMYAy
import Derived.Test.YtbfpdnnphdagjaaGreatMRBy
import Derived.Test.YtbfpdnnphdagjaaGreatRLy
import Derived.Test.YtbfpdnnphdagjaaGreatMCFy
import Derived.Test.YtbfpdnnphdagjaaGreatMDQy
import Derived.Test.YtbfpdnnphdagjaaGreatMTBy
import Derived.Lib.SlBytesConst
import Derived.BigRegion
import Derived.Deep.MidRow
set_option maxRecDepth 100000
set_option maxHeartbeats 6400000
set_option linter.unusedVariables false
set_option linter.unusedSimpArgs false
namespace Go.Proofs.YtbfpdnnphdagjaaGreat
open Go.RowKit
attribute [local go_sem ↓] Go.wp_at_zero Go.wp_at_succ
private theorem dK {P:Program} {ops:Array Oper} {Q:Exit->Act->World->Prop} {md:Region.Mode} {S:World->Prop} {L i:Nat} {oi:Oper} {v:Value} {fuel:Nat} {listed l':Array Bool} {a a':Act} {w:World} (hi:ops[i]? = some oi) (hy:YieldsIf P ops S oi v a) (hS:S w)
  (h:bO P md ops Q S L fuel l' a' w) (hl:listed.setIfInBounds i true=l':=by(try simp only[qa,qb,qc]);rfl) (ha:a.put oi.dst v=a':=by(try simp only[Act.put,qa,qb,qc]);rfl) (hL:cW md ops L i=true:=by kernel_rfl) (hs:Region.noSelect ops=true:=by kernel_rfl) (hf:Region.free md ops listed i=true:=by kernel_rfl) (hr:(Region.ready md ops listed).contains i=true:=by kernel_rfl)
  (hQ:∀c a w,Q (.panic c) (a.put oi.dst v) w->Q (.panic c) a w:=by exact fun _ _ _ h=>h):bO P md ops Q S L (fuel+1) listed a w:=by subst hl;subst ha;exact fW hi hL hs hf hr hQ hy hS h
def AV (w:World) (A:Option Addr) (k:Nat) (n:Nat) (z:Nat->Int):Prop:=
 ∃lb lo PA pc,A=some ⟨lb,lo,none⟩/\lb < w.heap.size/\w.cell? ⟨lb,lo+k,none⟩=some (.slice PA n pc)/\aD w w.heap.size PA n (fun j=>.int .u8 (z j))
theorem AV.below {w w':World} {A:Option Addr} {k:Nat} {n:Nat} {z:Nat->Int} (h:AV w A k n z) (hb:Below w.heap.size w w'):AV w' A k n z:=by
 obtain⟨lb,lo,PA,pc,h1,h2,h3,h5⟩:=h
 exact⟨lb,lo,PA,pc,h1,bp h2 hb.size,(hb.cell (p:=⟨lb,lo+k,none⟩) h2).trans h3,h5.next hb⟩
def mp (w:World) (A A':Option Addr) (m:Nat):Prop:=∀k,k < m->∃n z z',AV w A k n z/\AV w A' k n z'/\∀j,j < n->z j=z' j
theorem mp.below {w w':World} {A A':Option Addr} {m:Nat} (h:mp w A A' m) (hb:Below w.heap.size w w'):mp w' A A' m:=fun k hk=>by
 obtain⟨n,z,z',h1,h2,h3⟩:=h k hk
 exact⟨n,z,z',h1.below hb,h2.below hb,h3⟩
theorem kI (A A':Option Addr) (m c c':Nat) (w:World) (hm:m<=maxLen) (h:mp w A A' m) :
  Calls Tryz.prog 16 #[.slice A m c,.slice A' m c'] w fun e w'=>e=.returned (.bool true)/\Below w.heap.size w w':=by
 unfold maxLen at hm;have HS:=zh h;have hm':(m:Int)<=9223372036854775807:=by omega
 clear h;go_enter Tryz.func16,Tryz.ntmps16;go_wp2;go_loopw [5] (fun v wr=>∃k:Nat,k<=m/\v=.int .i64 k/\Below w.heap.size w wr) (fun v _=>m-(intOf v).toNat)
 case atStart=>exact⟨0,by omega,rfl,Below.refl _ _⟩
 case round=>
  obtain⟨k,hk,rfl,hb⟩:=hrel;by_cases hlt:k < m
  ·obtain⟨n,z,z',⟨lb,lo,PA,pc,rfl,h2,h3,h5⟩,⟨lb',lo',PA',pc',rfl,k2,k3,k5⟩,he⟩:=(HS.out.below hb) k hlt;have s1:=fun q=>dJ (P:=Tryz.prog) (w:=wr.drewN q) 41 9 5 Tryz.underlying41 Tryz.underlying5 Tryz.underlying9 (show aD (wr.drewN q) wr.heap.size PA n (fun j=>.int .u8 (z j))from h5) pc;have s2:=fun q=>dJ (P:=Tryz.prog) (w:=wr.drewN q) 41 9 5 Tryz.underlying41 Tryz.underlying5 Tryz.underlying9 (show aD (wr.drewN q) wr.heap.size PA' n (fun j=>.int .u8 (z' j))from k5) pc';rw[<-gU he]at s2;have BB:=zh hb;have k0:(0:Int)<=(k:Int):=by omega
   have k1:(k:Int) < (m:Int):=by omega
   clear h5 k5 he hb;go_upto_region 6 with (fail)
   go_quiet (fail);go_wp2;go_roundw
   case rel=>exact⟨k+1,by omega,by go_num,aQ BB.out _⟩
   case measure=>simp[intOf];omega
  ·obtain rfl:k=m:=by omega
   have BB:=zh hb;clear hb;go_wp2;go_ret
   exact⟨rfl,BB.out⟩
end Go.Proofs.YtbfpdnnphdagjaaGreat
namespace Go.Proofs.YtbfpdnnphdagjaaGreat
open Go.RowKit
section
variable {key z z':Nat->Nat} {n:Nat}
theorem pV (h:∀j,j < n->z j=z' j) (q:Nat):cN z n q=cN z' n q:=by
 funext j
 unfold cN
 split
 ·exact h _ (by assumption)
 ·rfl
theorem lD (h:∀j,j < n->z j=z' j):∀q,kE key z n q=kE key z' n q
 | 0=>rfl
 | q+1=>by
  show fO key (cz (kE key z n q) (qC key z n q))=fO key (cz (kE key z' n q) (qC key z' n q));rw[lD h q];unfold qC;rw[pV h q]
end
theorem oU {key:Nat->Nat} {ct b d:Nat} {z z':Nat->Nat} {n:Nat} (h:∀j,j < n->z j=z' j):di key ct b d z n=di key ct b d z' n:=by
 have e:fq key (bD (cF (my ct b d)) 8 z) (8+n)=fq key (bD (cF (my ct b d)) 8 z') (8+n):=by
  unfold fq;refine lD (fun j hj=>?_) _;unfold bD
  split
  ·rfl
  ·exact h _ (by omega)
 unfold di;rw[e]
theorem uc {M:Nat} (h:M < 4294967296):eP M 0*16777216+eP M 1*65536+eP M 2*256+eP M 3=M:=by
 unfold eP;simp only[Nat.mul_zero,Nat.sub_zero,Nat.reduceMul,Nat.reduceSub,Nat.reducePow];omega
theorem mu (cf:ax) (n:Nat):aT cf (bi cf n)=n/\cf.least<=bi cf n/\bi cf n<=n+6/\(cf.ig=true->bi cf n=n+6):=by
 unfold aT bi lM ax.least
 cases hig:cf.ig
 ·exact⟨by simp,by simp,by simp;omega,fun h=>by cases h⟩
 ·exact⟨by simp;omega,by simp;omega,by simp;omega,fun _=>by simp;omega⟩
theorem mQ (cf:ax) (ct n:Nat) (z:Nat->Nat) (j:Nat) (hj:j < n):cJ cf ct n z j=z j:=by
 unfold cJ bD;rw[if_pos hj]
theorem wJ (cf:ax) (hok:cf.Ok) (ct n:Nat) (z:Nat->Nat) (hz:∀j,j < n->z j < 256):cj cf ct (bi cf n) (bG cf ct n z)=true:=by
 unfold cj
 cases hig:cf.ig
 ·rfl
 ·obtain⟨hd,_⟩:=mu cf n;have hw:iJ cf ct (bi cf n) (bG cf ct n z)=di (nf cf.code) ct cf.b.toNat cf.d.toNat (bD (jE ct) 2 z) (2+n):=by
   unfold iJ;rw[hd];refine oU (fun j hj=>?_);unfold bD
   split
   ·unfold bG bD;rw[if_pos (by assumption)]
   ·rw[dG,mQ cf ct n z _ (by omega)]
  have hl:di (nf cf.code) ct cf.b.toNat cf.d.toNat (bD (jE ct) 2 z) (2+n) < 4294967296:=oW ct _ _ (fun j hj=>dZ hok.code hj) (gE (fun j _=>oo ct j) hz);have hp:∀j,cJ cf ct n z (n+j)=eP (di (nf cf.code) ct cf.b.toNat cf.d.toNat (bD (jE ct) 2 z) (2+n)) j:=fun j=>by
   unfold cJ;rw[show bD z n (eP (di (nf cf.code) ct cf.b.toNat cf.d.toNat (bD (jE ct) 2 z) (2+n))) (n+j)=eP (di (nf cf.code) ct cf.b.toNat cf.d.toNat (bD (jE ct) 2 z) (2+n)) (n+j-n)from if_neg (by omega),show n+j-n=j by omega]
  have hh:tY cf ct (bi cf n) (bG cf ct n z)=di (nf cf.code) ct cf.b.toNat cf.d.toNat (bD (jE ct) 2 z) (2+n):=by
   unfold tY;simp only;rw[hd,dG,dG,dG,dG,hp,hp,hp,hp]
   exact uc hl
  rw[hw,hh];simp
theorem mR (s:RS) (hck:s.C.Ok) (ct n:Nat) (z:Nat->Nat) (h1:1<=n) (h9:n<=9000) (hz8:∀j,j < n->z j < 256) (hc:bR s.deliver ((ct % 4096:Nat):Int)=some (ct:Int)) :
  s.take (bi s.C n) (bG s.C ct n z)=if stored s.L ct=true\/(ct:Int) < s.deliver then (0,false,{ s with dup:=s.dup+1 }) else (0,true,{ s with L:=dq (AE s.C ct n z) s.L,next:=max s.next ((ct:Int)+1) }):=by
 obtain⟨hd,hl,hm,_⟩:=mu s.C n;have hz:(fun j=>((eC s.C ct (bG s.C ct n z) j:Nat):Int))=fun j=>((cJ s.C ct n z j:Nat):Int):=funext fun j=>by rw[dG]
 have hco:¬cj s.C ct (bi s.C n) (bG s.C ct n z)=false:=by rw[wJ s.C hck ct n z hz8];decide
 unfold RS.take;rw[if_neg (by omega),if_neg (by rw[vW];omega),uI,hc];simp only[Int.toNat_natCast];rw[if_neg (by omega),if_neg hco,hd,hz]
 split
 ·rfl
 ·rw[if_neg (by omega),if_neg (by omega)]
  rfl
theorem om {s:RS} {t:Int} (ht:¬1073741824<=t) (hr:s.run=false) (hck:s.C.Ok) (ct n:Nat) (z:Nat->Nat) (h1:1<=n) (h9:n<=9000) (hz8:∀j,j < n->z j < 256) (hc:bR s.deliver ((ct % 4096:Nat):Int)=some (ct:Int)) (hd:stored s.L ct=true\/(ct:Int) < s.deliver) :
  s.receive t (bi s.C n) (bG s.C ct n z)=([],0,{ s.at_ t with dup:=s.dup+1 }):=by
 have he:(s.at_ t).expire=([],s.at_ t):=jD hr;have hx:=mR (s.at_ t) hck ct n z h1 h9 hz8 hc;rw[if_pos (show stored (s.at_ t).L ct=true\/(ct:Int) < (s.at_ t).deliver from hd)]at hx;unfold RS.receive;rw[if_neg ht];simp only[he];rw[show bi s.C n=bi (s.at_ t).C n from rfl,show bG s.C ct n z=bG (s.at_ t).C ct n z from rfl,hx]
 rfl
theorem nG {s:RS} {t:Int} (ht:¬1073741824<=t) (hr:s.run=false) (hck:s.C.Ok) (ct n:Nat) (z:Nat->Nat) (h1:1<=n) (h9:n<=9000) (hz8:∀j,j < n->z j < 256) (hc:bR s.deliver ((ct % 4096:Nat):Int)=some (ct:Int)) (hd:¬(stored s.L ct=true\/(ct:Int) < s.deliver)) (s2:RS) (h2:s2={ s.at_ t with L:=dq (AE s.C ct n z) s.L,next:=max s.next ((ct:Int)+1) }) :
  s.receive t (bi s.C n) (bG s.C ct n z)=(s2.deliver_.1,0,s2.deliver_.2.timer):=by
 have he:(s.at_ t).expire=([],s.at_ t):=jD hr;have hx:=mR (s.at_ t) hck ct n z h1 h9 hz8 hc;rw[if_neg (show ¬(stored (s.at_ t).L ct=true\/(ct:Int) < (s.at_ t).deliver)from hd)]at hx;unfold RS.receive;rw[if_neg ht];simp only[he];rw[show bi s.C n=bi (s.at_ t).C n from rfl,show bG s.C ct n z=bG (s.at_ t).C ct n z from rfl,hx,h2]
 rfl
theorem pF (g:Nat) (C:ax) (W R:Nat->Prop) (sb ub eb:Nat) (A:Option Addr) (n c:Nat) (z:Nat->Nat) (hok:C.Ok) (hv:C.Valid) (hnc:n<=c) (hz:∀j,j < n->z j < 256):nU g C W R sb ub eb A n c z:=by
 cases hig:C.ig
 ·exact lX g C W R sb ub eb A n c z hok hv hig hnc hz
 ·exact fun s' l' w' hC h hr hn2 ct W' hct hb=>by
   subst hC;have h6:6<=n:=by unfold ax.least at hn2;rw[hig]at hn2;simpa using hn2
   by_cases hbig:16384 < n-2
   ·exact ky g s' W R sb l' ub eb W' (h.below hb) hok hv ct hct A n c z (by omega) (.inr hbig) hnc hz (hr.next hb)
   ·exact zf g s' W R sb l' ub eb W' (h.below hb) hok hv hig ct hct A n c z h6 (by omega) hnc hz (hr.next hb)
theorem vf {s:RS} (h1:s.run=false) (h2:s.C.ro=0):s.timer=s:=oV h1 (fun h=>by rw[h2]at h;omega)
def zt (L:List SV):Prop:=L.Pairwise fun a b=>a.ct < b.ct
section
variable {cf:ax} {ms:Nat->Bool} {i:Nat} {out:List SV} {s:RS}
end
section
variable {cf:ax} {ms:Nat->Bool} {n:Nat} {vs out:List SV} {s:RS}
end
end Go.Proofs.YtbfpdnnphdagjaaGreat
namespace Go.Proofs.YtbfpdnnphdagjaaGreat
open Go.RowKit
attribute [local go_sem ↓] Go.wp_at_zero Go.wp_at_succ
def SE.cc (e:SE):List Value:=[.int .u32 e.v.ct,.slice e.A e.v.n e.c]
theorem SE.cclen (e:SE):e.cc.length=2:=rfl
def SV.bytes (v:SV):List Value:=(List.range v.n).map fun j=>.int .u8 (v.z j)
def zw (w:World) (B:Nat) (x:SE):Prop:=SL w 5 1 x.A x.v.n x.c x.v.bytes/\∀a,x.A=some a->B<=a.block
theorem zw.keepF {w w':World} {B:Nat} {x:SE} {F:Nat->Prop} (h:zw w B x) (hk:aa F w w') (hF:∀a,x.A=some a->¬F a.block):zw w' B x:=⟨h.1.keepF hk hF,h.2⟩
def qf (l:List SE):Prop:=∀(sb bx:Nat) (w:World),SM w sb l->ae w bx 87 #[.map (some sb)]->bV l->
  Calls Tryz.prog 70 #[.func (.func 104) #[] #[.pointer (some ⟨bx,0,none⟩)]] w (zC l w)
theorem km {l:List SE} (hl:l.length<=250):qf l:=fun sb bx w hS hB hr=>ra sb l bx w hS hB hr hl
theorem yM {l:List SE} (hr:bV l) {e:SE} (he:e∈l):bn e.v.ct l=some e:=by
 cases hf:bn e.v.ct l with
 | none=>exact absurd rfl (bF.1 hf e he)
 | some x=>
  obtain⟨h1,h2⟩:=gY hf;have hu:∀(l:List SE),bV l->∀a b,a∈l->b∈l->a.v.ct=b.v.ct->a=b:=by
   intro l
   induction l with
   | nil=>intro _ a b ha;cases ha
   | cons y r ih=>
    intro hr a b ha hb hab;obtain⟨h3,h4⟩:=List.pairwise_cons.1 hr;rcases List.mem_cons.1 ha with ha2 | ha2
    ·rcases List.mem_cons.1 hb with hb2 | hb2
     ·rw[ha2,hb2]
     ·have h5:=h3 b hb2;rw[ha2]at hab;omega
    ·rcases List.mem_cons.1 hb with hb2 | hb2
     ·have h5:=h3 a ha2;rw[hb2]at hab;omega
     ·exact ih h4 a b ha2 hb2 hab
  rw[hu l hr x e h1 he h2]
def AS (s:RS) (l:List SE) (w:World) (e:Ending) (w':World):Prop:=
 ∃(A:Option Addr) (c:Nat) (lx:List SE),e=.returned (.agg #[.int .u64 s.deliver,.int .u64 s.next,.slice A l.length c])/\lx.map (·.v)=l.map (·.v)/\SL w' 94 2 A l.length c (lx.flatMap SE.cc)/\(∀a,A=some a->w.heap.size<=a.block)/\(∀x,x∈lx->zw w' w.heap.size x)/\Below w.heap.size w w'
def zD (s:RS) (l:List SE) (ob:Nat) (V3:World) (k:Nat) (V:World):Prop:=
 ∃(A:Option Addr) (c:Nat) (lx:List SE),ae V ob 110 #[.int .u64 s.deliver,.int .u64 s.next,.slice A k c]/\lx.map (·.v)=(l.take k).map (·.v)/\SL V 94 2 A k c (lx.flatMap SE.cc)/\(∀a,A=some a->V3.heap.size<=a.block)/\(∀x,x∈lx->zw V V3.heap.size x)/\aa (fun q=>q=ob) V3 V
theorem rF (g:Nat) (s:RS) (W R:Nat->Prop) (sb:Nat) (l:List SE) (ub eb:Nat) (w:World) (h:aN w g s W R sb l ub eb) (hso:qf l) (hl:l.length<=1000) :
  Calls Tryz.prog 57 #[.pointer (some ⟨g,0,none⟩)] w (AS s l w):=by
 have HT:=zh h;have HSO:=zh hso;have HLL:=zh hl;have HRI:=zh h.ris;have HW:=zh (And.intro h.win h.rin);have HWG:=zh (And.intro h.wg h.ws);clear h hso hl;go_enter Tryz.func57,Tryz.ntmps57;go_upto_region 1 with (fail)
 obtain⟨ob,hob⟩:=af w.heap.size
 have HOB:=zh hob;refine ah (fun V=>ae V ob 110 #[.int .u64 0,.int .u64 0,.slice none 0 0]/\Below w.heap.size w V) ⟨by rw[hob];exact ae.new _ _ _,(Below.refl _ w).alloc ay _⟩ ?_;rintro V ⟨v1,v2⟩;have hT:=HT.out.below v2;have HMD:=zh (d9 g V hT.made);have cd:=hT.cdeliver;have cx:=hT.cnext;have o0:=v1.frozen 0;have o1:=v1.frozen 1;have hgo:ob ≠ g:=by rw[hob];have:=HT.out.blk.lt;omega
 have HV:=zh (And.intro v1 (And.intro v2 hT));rw[<-hob];clear v1 v2 hT hob;go_upto_region 3 with (go_at_call 29;refine(HMD.out).mono ?_;rintro e w2 ⟨rfl,hw2⟩;subst hw2)
 have c0:=HV.out.1.cell 0;have c1:=HV.out.1.cell 1;simp at c0 c1;go_region;have hB5:ae ((V.setCell ⟨ob,0,none⟩ (.int .u64 s.deliver)).setCell ⟨ob,1,none⟩ (.int .u64 s.next)).drew ob 110 #[.int .u64 s.deliver,.int .u64 s.next,.slice none 0 0]:=by
  have h5:=(HV.out.1.set_ 0 (.int .u64 s.deliver)).set_ 1 (.int .u64 s.next)
  exact(by simpa using h5:ae _ _ _ _).drew
 have hb5:Below w.heap.size w ((V.setCell ⟨ob,0,none⟩ (.int .u64 s.deliver)).setCell ⟨ob,1,none⟩ (.int .u64 s.next)).drew:=((HV.out.2.1.setCell (p:=⟨ob,0,none⟩) (Nat.le_of_eq HOB.out.symm) _).setCell (p:=⟨ob,1,none⟩) (Nat.le_of_eq HOB.out.symm) _).drew;have hT5:=HT.out.below hb5;obtain⟨V5,hV5⟩:=af (((V.setCell ⟨ob,0,none⟩ (.int .u64 s.deliver)).setCell ⟨ob,1,none⟩ (.int .u64 s.next)).drew)
 rw[<-hV5]at hB5 hb5 hT5;rw[<-hV5];obtain⟨V2,hV2⟩:=af (V5.alloc (.cells #[.map (some sb)] 87))
 have hB2:Below V5.heap.size V5 V2:=by rw[hV2];exact(Below.refl _ V5).alloc ay _
 have hBX:ae V2 V5.heap.size 87 #[.map (some sb)]:=by rw[hV2];exact ae.new _ _ _
 have HSR:=zh (HSO.out sb V5.heap.size V2 (hT5.st.below hB2 hT5.st.lt) hBX HRI.out);have HKM:=zh (tS sb V5);rw[<-hV2]at HKM;have x1:=hT5.cs;have HB5:=zh (And.intro hB5 (And.intro hb5 hT5));have HB2:=zh hB2;clear hB5 hb5 hT5 hV5 hB2 hBX hV2 c0 c1 cd cx o0 o1 HV HMD;go_wp2_with (first
  | (go_at_call 71;refine(HKM.out).mono ?_;rintro e w3 ⟨rfl,rfl⟩)
  | (go_at_call 70;refine(HSR.out).mono ?_;rintro e V3 ⟨KA,kc,rfl,hkr,hkf,hkb⟩;have HKR:=zh hkr;have HKF:=zh hkf;have HKB:=zh hkb;clear hkr hkf hkb))
 have HB3:=zh (HB2.out.trans (HKB.out.mono HB2.out.size));have HT3:=zh (HB5.out.2.2.below HB3.out);have HO3:=zh (HB5.out.1.below HB3.out HB5.out.1.lt);have HSZ:=zh (show ob < V3.heap.size/\w.heap.size<=ob from ⟨HO3.out.lt,Nat.le_of_eq HOB.out.symm⟩);have HV2:=zh (show ob < V2.heap.size/\V2.heap.size<=V3.heap.size from ⟨bp HB5.out.1.lt HB2.out.size,HKB.out.size⟩);have HL3:=zh (HB5.out.2.1.trans (HB3.out.mono HB5.out.2.1.size));clear x1;go_loopw [4,25] (fun v4 v25 wr=>∃k:Nat,k<=l.length/\v25=.int .i64 k/\zD s l ob V3 k wr) (fun _ v25 _=>l.length-(intOf v25).toNat)
 case atStart=>exact⟨0,by omega,rfl,none,0,[],HO3.out,rfl,SL.nil _ _ _,fun a h=>(by cases h),fun x h=>(by cases h),aa.refl⟩
 case round=>
  obtain⟨k,hk,rfl,A,c,lx,hO,hlx,hS,hA,hX,hKV⟩:=hrel;have HO:=zh hO;have HLX:=zh hlx;have HS:=zh hS;have HA:=zh hA;have HX:=zh hX;have HKV:=zh hKV;clear hO hlx hS hA hX hKV;by_cases hkl:k < l.length;rotate_left
  ·have hke:k=l.length:=by omega
   have k1:¬(k:Int) < (l.length:Int):=by omega
   have HKE:=zh hke;have x0:=HO.out.cell 0;have x1:=HO.out.cell 1;have x2:=HO.out.cell 2;simp only[List.getElem?_toArray,List.getElem?_cons_zero,List.getElem?_cons_succ]at x0 x1 x2;have f0:=HO.out.frozen 0;have f1:=HO.out.frozen 1;have f2:=HO.out.frozen 2;have hne:∀a,A=some a->ob ≠ a.block:=fun a ha=>by have:=HA.out a ha;have:=HSZ.out;omega
   have HNE:=zh hne;clear hke hkl hk hne;go_wp2;have hB:=(((HO.out.set_ 0 (.int .u64 s.deliver)).set_ 1 (.int .u64 s.next)).set_ 2 (.slice A k c))
   have hB':ae (((wr.setCell ⟨ob,0,none⟩ (.int .u64 s.deliver)).setCell ⟨ob,1,none⟩ (.int .u64 s.next)).setCell ⟨ob,2,none⟩ (.slice A k c)) ob 110 #[.int .u64 s.deliver,.int .u64 s.next,.slice A k c]:=by simpa using hB
   have hkp:aa (fun q=>q=ob) wr (((wr.setCell ⟨ob,0,none⟩ (.int .u64 s.deliver)).setCell ⟨ob,1,none⟩ (.int .u64 s.next)).setCell ⟨ob,2,none⟩ (.slice A k c)):=(((aa.refl (F:=fun q=>q=ob) (w:=wr)).setCell (p:=⟨ob,0,none⟩) rfl _).setCell (p:=⟨ob,1,none⟩) rfl _).setCell (p:=⟨ob,2,none⟩) rfl _;refine bodyPost_ret (v:=.agg #[.int .u64 s.deliver,.int .u64 s.next,.slice A k c]) ?_ ?_ ?_
   case refine_1=>exact results_cell_row (g:=ob) (t:=110) (fr:=(0,0)) Tryz.results57 _ _ _ _ rfl hB' Tryz.underlying110 rfl (by kernel_rfl)
   case refine_2=>rfl
   have hl3:=HL3.out.size;refine⟨A,c,lx,by rw[HKE.out],by have h1:=HLX.out;rw[HKE.out,List.take_length]at h1;exact h1,?_,fun a ha=>a9 hl3 (HA.out a ha),fun x hx=>⟨(HX.out x hx).1.keepF hkp (fun a ha e=>by have:=(HX.out x hx).2 a ha;have:=HSZ.out;omega),fun a ha=>a9 hl3 ((HX.out x hx).2 a ha)⟩,?_⟩
   ·have h1:=HS.out.keepF hkp (fun a ha e=>HNE.out a ha e.symm);rw[HKE.out]at h1 ⊢
    exact h1
   ·exact aa.below (aa.below HL3.out HKV.out (fun q hq=>by rw[hq];exact HSZ.out.2) hl3) hkp (fun q hq=>by rw[hq];exact HSZ.out.2) (a9 hl3 HKV.out.size)
  obtain⟨kb,ko,rfl,hkb,hkc⟩:=HKR.out (by omega);have hkbf:=HKF.out _ rfl;have hsz:=HSZ.out;have hv2:=HV2.out;have hsl:sb < w.heap.size:=HW.out.1 _ HWG.out.2;obtain⟨key,hkey⟩:=af ((ft l).getD k 0)
  have ck:wr.cell? ⟨kb,ko+k,none⟩=some (.int .u64 key):=by
   rw[hkey]
   exact(HKV.out.cell (p:=⟨kb,ko+k,none⟩) hkb (by show ¬kb=ob;simp only at hkbf;omega)).trans (hkc k hkl)
  have k0:(0:Int)<=(k:Int):=by omega
  have k1:(k:Int) < (l.length:Int):=by omega
  have hll:(l.length:Int)<=1000:=by have:=HLL.out;omega
  obtain⟨e,he⟩:∃e,l[k]? = some e:=⟨_,List.getElem?_eq_getElem hkl⟩
  have hct:key=e.v.ct:=by rw[hkey];unfold ft;rw[List.getD_eq_getElem?_getD,List.getElem?_map,he];rfl
  have hel:e∈l:=List.mem_of_getElem? he;have hfs:bn key l=some e:=by rw[hct];exact yM HRI.out hel
  have hok:=HT3.out.ok;have hrg:=HT3.out.rng e hel;have hk0:0<=key:=by rw[hct];have:=hok.deliver.1;omega
  have hk4:key < 4294967296:=by rw[hct];have:=hok.next;omega
  have hk9:key < 18446744073709551616:=by omega
  have hTr:=HT3.out.keepF HKV.out (fun q hq=>⟨fun hw=>by have:=HW.out.1 _ hw;omega,fun hw=>by have:=HW.out.2 _ hw;omega⟩);have HFA:=zh (show ∀W',aa (fun q=>∃a,A=some a/\q=a.block) wr W'->aN W' g s W R sb l ub eb from fun W' hW=>hTr.keepF hW (fun q ⟨a,ha,h⟩=>by
   have h1:=HA.out a ha
   exact⟨fun hw=>by have:=HW.out.1 _ hw;omega,fun hw=>by have:=HW.out.2 _ hw;omega⟩))
  have HOA:=zh (show ∀W',aa (fun q=>∃a,A=some a/\q=a.block) wr W'->ae W' ob 110 #[.int .u64 s.deliver,.int .u64 s.next,.slice A k c]from fun W' hW=>hW.blk HO.out (fun⟨a,ha,h⟩=>by have:=HA.out a ha;omega));have HLK:=zh (show ∀W',aa (fun q=>∃a,A=some a/\q=a.block) wr W'->(Instr.lookup 87 (.map (some sb)) (.int .u64 key) false).run Tryz.prog W'=.ok (.slice e.A e.v.n e.c) W' from fun W' hW=>yj (HFA.out W' hW).st hk0 hk9 hfs);have HPK:=zh (show ∀W',aa (fun q=>∃a,A=some a/\q=a.block) wr W'->bZ W' R e.A e.v.n e.c e.v.z from fun W' hW=>(HFA.out W' hW).pk e hel);have HCT:=zh hct;have HE:=zh (And.intro he hel);obtain⟨ic,hic,hicz,hics,hicb⟩:=sO;have wk:IntKind.u32.wrap key=key:=by simp[IntKind.wrap_u32];omega
  have hkk:k < 1000:=by have:=HLL.out;omega
  clear hkc hkb hkey hkbf hct hel hfs hok hrg he hTr hsl;go_upto_region 7 with (fail)
  refine fF (L:=15) (S:=fun w'=>aa (fun q=>∃a,A=some a/\q=a.block) wr w') (by kernel_rfl) (aa.refl.drew) (fun hHeld=>?_);obtain⟨w0,hw0⟩:=af wr.drew
  rw[<-hw0];rw[<-hw0]at hHeld;have hb0:Below wr.heap.size wr w0:=by rw[hw0];exact(Below.refl _ _).drew
  clear hw0;refine dK (i:=0) (oi:=⟨some 29,_,_,_,_,_⟩) (v:=.pointer (some ⟨ob,2,none⟩)) rfl (Or.inl ⟨by rfl,fun W hW=>(by go_simp)⟩) (by assumption) ?_;refine dK (i:=1) (oi:=⟨some 30,_,_,_,_,_⟩) (v:=.slice A k c) rfl (Or.inl ⟨by rfl,fun W hW=>(by have:=(HOA.out W hW).cell 2;simp at this;go_simp)⟩) (by assumption) ?_;refine dK (i:=2) (oi:=⟨some 31,_,_,_,_,_⟩) (v:=.int .u64 key) rfl (Or.inl ⟨by rfl,fun W hW=>(by rfl)⟩) (by assumption) ?_;refine dK (i:=3) (oi:=⟨some 32,_,_,_,_,_⟩) (v:=.int .u32 key) rfl (Or.inl ⟨by rfl,fun W hW=>(by go_simp)⟩) (by assumption) ?_;refine dK (i:=4) (oi:=⟨some 33,_,_,_,_,_⟩) (v:=.pointer (some ⟨g,0,none⟩)) rfl (Or.inl ⟨by rfl,fun W hW=>(by rfl)⟩) (by assumption) ?_;refine dK (i:=5) (oi:=⟨some 34,_,_,_,_,_⟩) (v:=.pointer (some ⟨g,0,none⟩)) rfl (Or.inl ⟨by rfl,fun W hW=>(by go_simp)⟩) (by assumption) ?_;refine dK (i:=6) (oi:=⟨some 35,_,_,_,_,_⟩) (v:=.pointer (some ⟨g,43,none⟩)) rfl (Or.inl ⟨by rfl,fun W hW=>(by go_simp)⟩) (by assumption) ?_;refine dK (i:=7) (oi:=⟨some 36,_,_,_,_,_⟩) (v:=.map (some sb)) rfl (Or.inl ⟨by rfl,fun W hW=>(by have:=(HFA.out W hW).cs;go_simp)⟩) (by assumption) ?_;refine dK (i:=8) (oi:=⟨some 37,_,_,_,_,_⟩) (v:=.int .u64 key) rfl (Or.inl ⟨by rfl,fun W hW=>(by rfl)⟩) (by assumption) ?_;refine dK (i:=9) (oi:=⟨some 38,_,_,_,_,_⟩) (v:=.slice e.A e.v.n e.c) rfl (Or.inl ⟨by rfl,fun W hW=>(by have:=HLK.out W hW;go_simp)⟩) (by assumption) ?_;refine ci (i:=10) (o:=⟨some 39,_,_,_,_,_⟩) (by kernel_rfl) rfl (fun K hK=>?_);rw[if_pos (by rfl)];go_simp;refine(gw e.A e.v.n e.c e.v.z w0 (by have:=(HPK.out w0 hHeld).max;omega) (HPK.out w0 hHeld).row).mono ?_;rintro en u1 ⟨A2,c2,rfl,hc2,ho2,hb2⟩;dsimp only;obtain⟨A2',c2',hv2',hs2,hf2⟩:=vC ho2
  cases hv2'
  have hb1:Below wr.heap.size wr u1:=hb0.trans (hb2.mono hb0.size);have hE1:aa (fun q=>∃a,A=some a/\q=a.block) wr u1:=hHeld.trans (aa.of_below (F:=fun _=>False) hb2) (fun _ _ h=>h.elim);have hf2':∀a,A2=some a->wr.heap.size<=a.block:=fun a ha=>a9 hb0.size (hf2 a ha);refine hK.out _ _ hE1 (fun hHeld=>?_);clear hK K ho2 hb2
  try simp only[Act.put,qa,qb,qc]
  refine dK (i:=11) (oi:=⟨some 40,_,_,_,_,_⟩) (v:=.agg #[.int .u32 key,.slice A2 e.v.n c2]) rfl (Or.inl ⟨by rfl,fun W hW=>(by go_simp)⟩) (by assumption) ?_;refine ci (i:=12) (o:=⟨some 41,_,_,_,_,_⟩) (by kernel_rfl) rfl (fun K hK=>?_);rw[if_pos (by rfl)];go_simp;obtain⟨u2,hu2⟩:∃X,X=u1.alloc (.cells #[.int .u32 key,.slice A2 e.v.n c2] 94):=⟨_,rfl⟩
  obtain⟨nb,hnb⟩:=af u1.heap.size
  have hbk:Below u1.heap.size u1 u2:=by rw[hu2];exact bU _
  have hNB:ae u2 nb 94 #[.int .u32 key,.slice A2 e.v.n c2]:=by rw[hu2,hnb];exact ae.new _ _ _
  have hb3:Below wr.heap.size wr u2:=hb1.trans (hbk.mono hb1.size);have hE2:aa (fun q=>∃a,A=some a/\q=a.block) wr u2:=hE1.trans (aa.of_below (F:=fun _=>False) hbk) (fun _ _ h=>h.elim);have hs3:=hs2.next hbk;rw[<-hu2,<-hnb];refine hK.out _ _ hE2 (fun hHeld=>?_);clear hK K hu2
  try simp only[Act.put,qa,qb,qc]
  refine ci (i:=13) (o:=⟨some 42,_,_,_,_,_⟩) (by kernel_rfl) rfl (fun K hK=>?_);rw[if_pos (by rfl)];refine cr _ _ 106 106 rfl u2 94 ic (.agg #[.int .u32 0,.slice none 0 0]) 2 32 Tryz.underlying106 hic hicz hics hicb rfl A k c (lx.flatMap SE.cc) rfl (HS.out.next hb3) (.slice (some ⟨nb,0,none⟩) 1 1) rfl 1 [.int .u32 key,.slice A2 e.v.n c2] (Src.ofSlice _ Tryz.underlying106 ⟨nb,0,none⟩ 1 1 _ rfl (fun j u hu=>by
    have hj:j < 2:=(List.getElem?_eq_some_iff.1 hu).1;rw[Addr.add_lit,Nat.zero_add,hNB.cell j];simpa using hu) (by simp[Value.oneCell'])) (by decide) (by unfold maxLen;omega) (by omega) (fun A9 c9 u3 hs9 hk9 ha9=>?_)
  have hE3:aa (fun q=>∃a,A=some a/\q=a.block) wr u3:=hE2.trans hk9 (fun _ _ h=>h);have HA9:=zh (show ∀a,A9=some a->V3.heap.size<=a.block from fun a ha=>by
   rcases ha9 a ha with ⟨a',h1,h2⟩ | h2
   ·rw[h2];exact HA.out a' h1
   ·exact a9 HKV.out.size (a9 hb3.size h2))
  have hnA:∀a,A2=some a->¬∃a',A=some a'/\a.block=a'.block:=fun a ha ⟨a',h1,h2⟩=>by
   have h3:=hf2' a ha;have h4:=HS.out.lt h1;omega
  have hs4:=hs3.keepF hk9 hnA;have hXn:zw u3 V3.heap.size (⟨e.v,A2,c2⟩:SE):=⟨hs4,fun a ha=>a9 HKV.out.size (hf2' a ha)⟩
  have hXo:∀x,x∈lx->zw u3 V3.heap.size x:=fun x hx=>by
   have h1:=HX.out x hx;refine⟨(h1.1.next hb3).keepF hk9 (fun a ha ⟨a',h2,h3⟩=>?_),h1.2⟩;obtain⟨cu1,hc1⟩:=(h1.1.next hb3).obj ha;obtain⟨cu2,hc2'⟩:=(HS.out.next hb3).obj h2;rw[h3,hc2']at hc1
   cases hc1
  have HS9:=zh (show SL u3 94 2 A9 (k+1) c9 ((lx++[(⟨e.v,A2,c2⟩:SE)]).flatMap SE.cc) by
   rw[List.flatMap_append];have h1:([(⟨e.v,A2,c2⟩:SE)]).flatMap SE.cc=[.int .u32 key,.slice A2 e.v.n c2]:=by rw[HCT.out];rfl
   rw[h1]
   exact hs9)
  have HX9:=zh (show ∀x,x∈lx++[(⟨e.v,A2,c2⟩:SE)]->zw u3 V3.heap.size x from fun x hx=>by
   rcases List.mem_append.1 hx with hx | hx
   ·exact hXo x hx
   ·have:x=(⟨e.v,A2,c2⟩:SE):=by simpa using hx
    rw[this]
    exact hXn)
  have HLX9:=zh (show(lx++[(⟨e.v,A2,c2⟩:SE)]).map (·.v)=(l.take (k+1)).map (·.v) by
   rw[List.take_add_one,HE.out.1,List.map_append,List.map_append,HLX.out]
   rfl)
  have HE3:=zh hE3;refine hK.out _ _ hE3 (fun hHeld=>?_);clear hK K hs9 hk9 ha9 hXn hXo hs4 hnA hE1 hE2
  try simp only[Act.put,qa,qb,qc]
  refine dK (i:=14) (oi:=⟨some 43,_,_,_,_,_⟩) (v:=.pointer (some ⟨ob,2,none⟩)) rfl (Or.inl ⟨by rfl,fun W hW=>(by go_simp)⟩) (by assumption) ?_;refine dR (o:=⟨none,_,_,_,_,_⟩) (by kernel_rfl) (by kernel_rfl) rfl (fun K hK=>?_);rw[if_pos (by rfl)];have co:=(HOA.out u3 HE3.out).cell 2;have fo:=(HOA.out u3 HE3.out).frozen 2;simp at co;go_simp;clear co fo;refine hK.out _ _ ?_;clear hK K hHeld
  try simp only[Act.put]
  have hK7:=aC u3 ob 2 (.slice A9 (k+1) c9);have hB7:ae (u3.setCell ⟨ob,2,none⟩ (.slice A9 (k+1) c9)) ob 110 #[.int .u64 s.deliver,.int .u64 s.next,.slice A9 (k+1) c9]:=by
   have h1:=(HOA.out u3 HE3.out).set_ 2 (.slice A9 (k+1) c9);simpa using h1
  have hI9:zD s l ob V3 (k+1) (u3.setCell ⟨ob,2,none⟩ (.slice A9 (k+1) c9)):=⟨A9,c9,lx++[(⟨e.v,A2,c2⟩:SE)],hB7,HLX9.out,HS9.out.keepF hK7 (fun a ha e=>by have:=HA9.out a ha;omega),HA9.out,fun x hx=>(HX9.out x hx).keepF hK7 (fun a ha e=>by have:=(HX9.out x hx).2 a ha;omega),(HKV.out.trans HE3.out (fun q hq ⟨a,ha,h⟩=>by have:=HA.out a ha;omega)).trans hK7 (fun q _ h=>h)⟩
  clear hK7 hB7;generalize u3.setCell ⟨ob,2,none⟩ (.slice A9 (k+1) c9)=V9 at hI9 ⊢;have HI9:=zh hI9;clear hI9;go_wp2;go_roundw
  case rel=>exact⟨k+1,by omega,by go_num,HI9.out⟩
  case measure=>simp[intOf];omega
end Go.Proofs.YtbfpdnnphdagjaaGreat

import Derived.Test.YtiiojpnckbglcaaGreatMGHs
import Derived.Test.YtiiojpnckbglcaaGreatSEs
import Derived.Test.YtiiojpnckbglcaaGreatY2Hs
import Derived.Test.YtiiojpnckbglcaaGreatMZAs
import Derived.Test.YtiiojpnckbglcaaGreatMZMs
import Derived.Test.YtiiojpnckbglcaaGreatB1s
set_option maxRecDepth 100000
set_option maxHeartbeats 1600000
set_option linter.unusedVariables false
set_option linter.unusedSimpArgs false
namespace Go.Proofs.YtiiojpnckbglcaaGreat
open Go.RowKit
def eM (S:Nat->Rx) (T:Int):Obj:=.cells (fO true S T) 137 (0,0)
def gB (o:Obj) (m:Int):Prop:=∃x:(Nat->Rx)×Int,o=eM x.1 x.2/\(∀i,i < 16->(x.1 i).Ok)/\0<=x.2/\x.2<=m
theorem tK:i6=eM (fun _=>Rx.zero) 0:=by kernel_rfl
theorem uY:Rx.zero.Ok:=⟨by decide,by decide,by decide,by decide,by decide⟩
theorem xw (m:Int) (hm:0<=m):gB i6 m:=⟨(fun _=>Rx.zero,0),tK,fun i _=>uY,Int.le_refl _,hm⟩
open Classical in
noncomputable def ev (o:Obj):(Nat->Rx)×Int:=if h:∃x:(Nat->Rx)×Int,o=eM x.1 x.2/\(∀i,i < 16->(x.1 i).Ok)/\0<=x.2 then Classical.choose h else (fun _=>Rx.zero,0)
theorem ph {S S':Nat->Rx} {T T':Int} (h:eM S T=eM S' T'):T=T':=by
 unfold eM at h;injection h with h1
 have e1:=cZ true S T 225 (by decide);rw[h1,cZ true S' T' 225 (by decide)]at e1;have e2:Value.int .i64 T'=Value.int .i64 T:=Option.some.inj e1;injection e2 with _ e3
 exact e3.symm
theorem uo {o:Obj} {m:Int} (h:gB o m):o=eM (ev o).1 (ev o).2/\(∀i,i < 16->((ev o).1 i).Ok)/\0<=(ev o).2/\(ev o).2<=m:=by
 obtain⟨x,h1,h2,h3,h4⟩:=h;have hx:∃x:(Nat->Rx)×Int,o=eM x.1 x.2/\(∀i,i < 16->(x.1 i).Ok)/\0<=x.2:=⟨x,h1,h2,h3⟩
 have hs:=Classical.choose_spec hx;have e:ev o=Classical.choose hx:=dif_pos hx;rw[e];refine⟨hs.1,hs.2.1,hs.2.2,?_⟩;have:=ph (hs.1.symm.trans h1);omega
noncomputable def kN (C:aZ) (o:Obj) (n:Nat) (z:Nat->Int):Nat:=if C.cm=true then eJ (ev o).1 (ev o).2 n z else n
noncomputable def kZ (C:aZ) (o:Obj) (n:Nat) (z:Nat->Int):Nat->Int:=if C.cm=true then vV (ev o).1 (ev o).2 n z else z
noncomputable def kO (C:aZ) (o:Obj) (n:Nat) (z:Nat->Int):Obj:=if C.cm=true then eM (ya (ev o).1 (ev o).2 n z) (yb (ev o).2 n z) else o
theorem tr (S:Nat->Rx) (T:Int) (n:Nat) (z:Nat->Int) (h1:1<=n) (h9:n<=9000):1<=eJ S T n z/\eJ S T n z<=n+1:=by
 have e:bK n=0:=by unfold bK;rw[if_neg (by omega),if_neg (by omega)]
 unfold eJ;rw[if_neg (not_not_intro e)]
 split
 ·omega
 ·rename_i hp;have hp':dr n z=0:=by omega
  obtain⟨n20,_,_⟩:=eO n z hp';have:ib S T (eC n z)<=19:=by
   unfold ib
   split
   ·omega
   ·split<;>omega
  omega
theorem qq (C:aZ) (o:Obj) (n:Nat) (z:Nat->Int) (h1:1<=n) (h9:n<=9000):1<=kN C o n z/\kN C o n z<=n+1:=by
 unfold kN
 split
 ·exact tr _ _ n z h1 h9
 ·omega
theorem uN (S:Nat->Rx) (T:Int) (X:Nat->Int) (n:Nat) (z:Nat->Int) (j:Nat):eP S T X n z j=if j < ib S T X then ly S T X z j else z (20+(j-ib S T X)):=by
 unfold eP;simp[de,aK]
theorem jQ (S:Nat->Rx) (T:Int) (X:Nat->Int):cU S T X=0\/(cU S T X=1/\kT (aB S T X) (X 7) < 65536)\/cU S T X=2:=by
 unfold cU eF
 split
 ·exact .inl rfl
 ·split
  ·exact .inr (.inr rfl)
  ·split
   ·exact .inr (.inl ⟨rfl,by assumption⟩)
   ·exact .inl rfl
theorem td (S:Nat->Rx) (T:Int) (n:Nat) (z:Nat->Int) (hok:∀i,i < 16->(S i).Ok) (h1:1<=n) (h9:n<=9000) (hz:∀j,j < n->0<=z j/\z j < 256) (j:Nat) (hj:j < eJ S T n z):0<=vV S T n z j/\vV S T n z j < 256:=by
 have e:bK n=0:=by unfold bK;rw[if_neg (by omega),if_neg (by omega)]
 unfold eJ at hj;rw[if_neg (not_not_intro e)]at hj;unfold vV;by_cases hp:dr n z=0
 ·rw[if_neg (not_not_intro hp)]at hj ⊢;obtain⟨n20,_,_⟩:=eO n z hp;have b5:=jA n z 5;have e5:((2 ^ iG (5+1):Nat):Int)=256:=by decide
  rw[e5]at b5;have hcp:=lQ S (eC n z);have hO:=hok _ hcp;obtain⟨X,hX⟩:=af (eC n z)
  rw[<-hX]at b5 hcp hO hj ⊢;unfold cF
  split
  ·unfold cE;rcases jQ S T X with h | ⟨h,_⟩ | h<;>rw[h]<;>omega
  ·rename_i hj0;rw[uN];have hg:0<=(S (bE S X)).gen/\(S (bE S X)).gen < 256:=hO.gen;have hb:∀s:Int,0<=(dD (aB S T X) (X 5) (X 6) (X 7) s).gen/\(dD (aB S T X) (X 5) (X 6) (X 7) s).gen < 256:=fun s=>by
    show 0<=(if (S (bE S X)).began=true then ((S (bE S X)).gen+1) % 256 else (S (bE S X)).gen)/\(if (S (bE S X)).began=true then ((S (bE S X)).gen+1) % 256 else (S (bE S X)).gen) < 256
    split<;>omega
   split
   ·rename_i hl;unfold ib at hl;unfold ly;rcases jQ S T X with h | ⟨h,ht⟩ | h
    ·rw[if_pos h]at hl ⊢
     split
     ·unfold dg;rw[if_pos h]
      exact hb 0
     ·exact hz _ (by omega)
    ·rw[if_neg (by rw[h];decide),if_pos h]at hl ⊢;obtain⟨_,_,_,n1,n2⟩:=lu S T X (by rw[h];decide);have ht0:0<=kT (aB S T X) (X 7):=by unfold kT;omega
     rcases (by omega:j-1=0\/j-1=1\/j-1=2\/j-1=3\/j-1=4)with e | e | e | e | e<;>rw[e]
     ·show 0<=(dg S T X).gen/\(dg S T X).gen < 256;unfold dg;rw[if_neg (by rw[h];decide),if_pos h]
      exact hb _
     ·show 0<=bP (aB S T X) (X 6)/\bP (aB S T X) (X 6) < 256;omega
     ·show 0<=kT (aB S T X) (X 7) / 256/\kT (aB S T X) (X 7) / 256 < 256;omega
     ·show 0<=kT (aB S T X) (X 7) % 256/\kT (aB S T X) (X 7) % 256 < 256;omega
     ·exact b5
    ·rw[if_neg (by rw[h];decide),if_neg (by rw[h];decide)]at hl ⊢;obtain⟨_,_,_,n1,n2⟩:=lu S T X (by rw[h];decide);rcases (by omega:j-1=0\/j-1=1)with e | e<;>rw[e]
     ·show 0<=(aB S T X).gen/\(aB S T X).gen < 256
      exact hg
     ·show 0<=bP (aB S T X) (X 6)/\bP (aB S T X) (X 6) < 256;omega
   ·exact hz _ (by omega)
 ·rw[if_pos hp]at hj ⊢;unfold cF
  split
  ·omega
  ·exact hz _ (by omega)
theorem qO {C:aZ} {o:Obj} {m:Int} (h:gB o m) {n:Nat} {z:Nat->Int} (h1:1<=n) (h9:n<=9000) (hz:∀j,j < n->0<=z j/\z j < 256):∀j,j < kN C o n z->0<=kZ C o n z j/\kZ C o n z j < 256:=by
 intro j hj;obtain⟨_,h2,_⟩:=uo h;unfold kN at hj;unfold kZ
 split
 ·rename_i hc;rw[if_pos hc]at hj
  exact td _ _ n z h2 h1 h9 hz j hj
 ·rename_i hc;rw[if_neg hc]at hj
  exact hz j hj
noncomputable def iq:KF:=⟨kN,kZ,kO,gB⟩
noncomputable def TS.sendK (s:TS) (t:Int):NX:=s.sendF iq t
def iN (cf:aZ) (cb:Nat) (o:Obj) (ct n:Nat) (z:Nat->Int) (w:World) (e:Ending) (w':World):Prop:=mn iq cf cb o ct n z w e w'
def qS (g:Nat) (C:aZ):Prop:=jE iq g C
theorem fY.toK {cf:aZ} {cb ct n:Nat} {o:Obj} {z:Nat->Int} {w:World} {e:Ending} {w':World} (h:fY cf ct n z w e w') (hcm:cf.cm=false) (ho:w.heap[cb]? = some o):iN cf cb o ct n z w e w':=by
 obtain⟨A,c,h1,h2,h3,h4,h5⟩:=h;have e1:iq.n cf o n z=n:=by show kN cf o n z=n;unfold kN;rw[if_neg (by rw[hcm];decide)]
 have e2:iq.z cf o n z=z:=by show kZ cf o n z=z;unfold kZ;rw[if_neg (by rw[hcm];decide)]
 have e3:iq.o cf o n z=o:=by show kO cf o n z=o;unfold kO;rw[if_neg (by rw[hcm];decide)]
 unfold iN mn;rw[e1,e2,e3]
 exact⟨A,c,h1,h2,h3,h4,aa.of_below h5,(h5.block cb (Array.getElem?_eq_some_iff.1 ho).1).trans ho⟩
theorem ut (g:Nat) (s:TS) (W R:Nat->Prop) (w:World) (h:dK w g s W R) (hf:s.Fine) (t:Int) (ht1:-9223372036854775808<=t) (ht2:t<=9223372036854775807) (hb:qS g s.C) (mm:Int) (hmm:mm < 4611686018427387903) (hcp:gB s.comp mm) (hpl:s.P.length<=1000000) :
  Calls Tryz.prog 13 #[.pointer (some ⟨g,0,none⟩),.int .i64 t] w (va W R w g (s.sendK t)):=vU iq g s W R w h hf t ht1 ht2 hb mm hmm hcp hpl
end Go.Proofs.YtiiojpnckbglcaaGreat
namespace Go.Proofs.YtiiojpnckbglcaaGreat
open Go.RowKit
attribute [local go_sem ↓] Go.wp_at_zero Go.wp_at_succ
theorem nE (g:Nat) (s:TS) (W R:Nat->Prop) (w:World) (h:dK w g s W R) (hf:s.Fine) (hcm:s.C.cm=true) (hql:s.Q.length<=1000000) (t:Int) (ht1:-9223372036854775808<=t) (ht2:t<=9223372036854775807) (A:Option Addr) (n c:Nat) (z:Nat->Int) (ha:oR w W A n z) (hn9:n<=1000000) :
  Calls Tryz.prog 12 #[.pointer (some ⟨g,0,none⟩),.int .i64 t,.slice A n c] w fun e w'=>e=.returned (.int .i64 (s.submit t n z).1)/\jy W R w w' g (s.submit t n z).2:=by
 by_cases hbad:1073741824<=t\/n=0\/9000 < n
 ·exact jj g s W R w h hf t ht1 ht2 A n c z ha hbad hn9
 have ct:¬1073741824<=t:=fun h=>hbad (.inl h);have cn:¬n=0:=fun h=>hbad (.inr (.inl h));have cl:¬9000 < n:=fun h=>hbad (.inr (.inr h));unfold TS.submit;rw[if_neg ct,if_neg cn,if_neg cl];have HTK:=Lib.hid (bX g s W R w h hf t ht1 ht2);have HA:=Lib.hid ha;have HF:=Lib.hid hf;have n0:(0:Int)<=(n:Int):=by omega
 clear h hf ha;go_enter Tryz.func12,Tryz.ntmps12;rw[if_neg ct,if_neg ct]at HTK;have HCM:=Lib.hid hcm;have HQL:=Lib.hid (ba (s.tick_len t) hql);have HNP:Hid (1<=n/\n<=9000):=Lib.hid (by omega);have hl1:¬((n:Int)=0):=by omega
 have hl2:¬(9000:Int) < (n:Int):=by omega
 have hl3:(n:Int)<=9223372036854775807:=by omega
 clear hbad cn cl hcm hql;obtain⟨s1,hs1⟩:=af (s.tick t)
 have HC1:Hid (s1.C=s.C):=Lib.hid (by rw[hs1];rfl);have HNOW:Hid (s1.now=max s.now t):=Lib.hid (by rw[hs1];rfl);rw[<-hs1]at HTK HQL ⊢;clear hs1;go_upto_region 8 with (go_at_call 42;refine(HTK.out).mono ?_;rintro e w1 ⟨rfl,hO⟩;have HO:=Lib.hid hO;clear hO)
 obtain⟨W1,R1,hI1,hW1,hR1,hK1⟩:=HO.out;obtain⟨qA,qc,lq,pA,pc,lp,ub,cb,hT1⟩:=hI1;have T1:=Lib.hid hT1;have HW1:=Lib.hid hW1;have HR1:=Lib.hid hR1;have HK1:=Lib.hid hK1;have A1:=Lib.hid (HA.out.keep hK1 hW1);have c35:w1.cell? ⟨g,35,none⟩=some (.bool true):=(hT1.cC (j:=35) (by decide)).trans (by rw[show s1.C.cell 35=.bool s1.C.cm from rfl,HC1.out,HCM.out]);clear hT1 hW1 hR1 hK1;have HCK:=Lib.hid (show bK n=0 from by have:=HNP.out;unfold bK;rw[if_neg (by omega),if_neg (by omega)]);have HCC:=Lib.hid (fun V=>gh A n c V);rw[HCK.out]at HCC;go_upto_region 12 with (go_at_call 43;refine(HCC.out _).mono ?_;rintro e wq ⟨rfl,rfl⟩)
 have hgl:=T1.out.blk.lt;obtain⟨w0,hw0⟩:=af w1.drew
 have hb0:Below w1.heap.size w1 w0:=by rw[hw0];exact(Below.refl _ _).drew
 have T0:bN w0 g s1 W1 R1 qA qc lq pA pc lp ub cb:=T1.out.below hb0;have A0:=A1.out.keep (aa.of_below (F:=W1) hb0) (fun k hk=>.inl hk);obtain⟨iw,hiw,hiwz,hiws,hiwb⟩:=jV;have cnow:=T0.cnow;obtain⟨mx,hmx⟩:=af s1.now
 have HMX:=Lib.hid hmx;rw[<-hmx]at cnow;refine wp_region_held_drew (S:=fun w'=>aa (fun j=>j=g\/∃a,qA=some a/\j=a.block) w1 w'/\w'.cell? ⟨g,40,none⟩=some (.int .i64 mx)) (by kernel_rfl) ⟨(aa.refl (w:=w1)).drew,by rw[<-hw0];exact cnow⟩ (fun hHeld=>?_);rw[<-hw0];rw[<-hw0]at hHeld;clear hw0 cnow hmx c35;obtain⟨ql,hql⟩:=af lq.length
 have HPL:=Lib.hid hql;have HQ6:Hid (ql<=1000000):=Lib.hid (by rw[hql];have hq:=congrArg List.length T0.qv;have:=HQL.out;rw[List.length_map]at hq;omega);clear hql;refine dF (i:=0) (x:=some 33) (v:=.pointer (some ⟨g,0,none⟩)) rfl ?_;refine dF (i:=1) (x:=some 34) (v:=.pointer (some ⟨g,0,none⟩)) rfl ?_;refine bF (i:=2) (x:=some 35) (v:=.pointer (some ⟨g,0,none⟩)) rfl ?_;refine bF (i:=3) (x:=some 36) (v:=.pointer (some ⟨g,42,none⟩)) rfl ?_;refine dF (i:=5) (x:=some 38) (v:=.slice A n c) rfl ?_;refine dF (i:=7) (x:=some 40) (v:=.pointer (some ⟨g,0,none⟩)) rfl ?_;refine bF (i:=8) (x:=some 41) (v:=.pointer (some ⟨g,0,none⟩)) rfl ?_;refine bF (i:=9) (x:=some 42) (v:=.pointer (some ⟨g,40,none⟩)) rfl ?_;refine ed (i:=10) (x:=some 43) (v:=.int .i64 mx) rfl (.inl ⟨by rfl,fun W hW=>(by have:=hW.2;go_simp)⟩) ?_;refine wpAnyH_ready (rs:=[4,6]) (by kernel_rfl) (by simp) ?_;refine AllReadyH.cons (o:=⟨some 37,_,_,_,_,_⟩) rfl (fun K hK=>?_) (AllReadyH.cons (o:=⟨some 39,_,_,_,_,_⟩) rfl (fun K hK=>?_) AllReadyH.nil)
 focus
  skip;rw[if_pos (by rfl)];have h43:=T0.cq;rw[<-HPL.out]at h43;go_simp;refine hK.out _ _ hHeld (fun hHeld=>?_);clear hK K h43
  try simp only[Act.put,qa,qb,qc]
  refine bc (i:=6) (x:=some 39) rfl fun K hK=>?_;go_simp;refine(bw A n c z w0 (by omega) A0.row).mono ?_;rintro e w1' ⟨A2,c2',rfl,hc2,hR2,hF2,hbk⟩;dsimp only;have hFl:∀a,A2=some a->w0.heap.size<=a.block:=hF2;have hFr:∀a,A2=some a->a.block < w1'.heap.size:=fun a e=>db hR2 HNP.out.1 e;have hwl1:∀j,W1 j->j < w0.heap.size:=T0.win;have U1:=T0.below hbk;have hb1:Below w1.heap.size w1 w1':=hb0.trans (hbk.mono hb0.size);have hW2:∀j,W1 j->∀a,A2=some a->j ≠ a.block:=fun j hj a e=>by have:=hFl a e;have:=hwl1 j hj;omega
  refine hK.out _ _ ⟨hHeld.1.more hbk,(hbk.cell (p:=⟨g,40,none⟩) T0.blk.lt).trans hHeld.2⟩ (fun hHeld=>?_);clear hK K hbk hF2
  try simp only[Act.put,qa,qb,qc]
  refine bF (i:=11) (x:=some 44) (v:=.agg #[.slice A2 n c2',.int .i64 mx]) rfl ?_;refine bc (i:=12) (x:=some 45) rfl fun K hK=>?_;go_simp;obtain⟨w2',hv⟩:∃X,X=w1'.alloc (.cells #[.slice A2 n c2',.int .i64 mx] 96):=⟨_,rfl⟩
  obtain⟨nb,hnb⟩:=af w1'.heap.size
  have hbk:Below w1'.heap.size w1' w2':=by rw[hv];exact bM _
  have hNB:ae w2' nb 96 #[.slice A2 n c2',.int .i64 mx]:=by rw[hv,hnb];exact ae.new _ _ _
  have T2:=U1.below hbk;have hb2:Below w1.heap.size w1 w2':=hb1.trans (hbk.mono hb1.size);replace hR2:=hR2.next hbk;replace hFr:∀a,A2=some a->a.block < w2'.heap.size:=fun a e=>bg (hFr a e) hbk.size;rw[<-hv,<-hnb];refine hK.out _ _ ⟨hHeld.1.more hbk,(hbk.cell (p:=⟨g,40,none⟩) U1.blk.lt).trans hHeld.2⟩ (fun hHeld=>?_);clear hK K hbk hv hnb
 rotate_left
 focus
  skip;rw[if_pos (by rfl)];go_simp;refine(bw A n c z w0 (by omega) A0.row).mono ?_;rintro e w1' ⟨A2,c2',rfl,hc2,hR2,hF2,hbk⟩;dsimp only;have hFl:∀a,A2=some a->w0.heap.size<=a.block:=hF2;have hFr:∀a,A2=some a->a.block < w1'.heap.size:=fun a e=>db hR2 HNP.out.1 e;have hwl1:∀j,W1 j->j < w0.heap.size:=T0.win;have U1:=T0.below hbk;have hb1:Below w1.heap.size w1 w1':=hb0.trans (hbk.mono hb0.size);have hW2:∀j,W1 j->∀a,A2=some a->j ≠ a.block:=fun j hj a e=>by have:=hFl a e;have:=hwl1 j hj;omega
  refine hK.out _ _ ⟨hHeld.1.more hbk,(hbk.cell (p:=⟨g,40,none⟩) T0.blk.lt).trans hHeld.2⟩ (fun hHeld=>?_);clear hK K hbk hF2
  try simp only[Act.put,qa,qb,qc]
  refine bF (i:=11) (x:=some 44) (v:=.agg #[.slice A2 n c2',.int .i64 mx]) rfl ?_;refine wpAnyH_ready (rs:=[4,12]) (by kernel_rfl) (by simp) ?_;refine AllReadyH.cons (o:=⟨some 37,_,_,_,_,_⟩) rfl (fun K hK=>?_) (AllReadyH.cons (o:=⟨some 45,_,_,_,_,_⟩) rfl (fun K hK=>?_) AllReadyH.nil)
  focus
   skip;rw[if_pos (by rfl)];have h43:=U1.cq;rw[<-HPL.out]at h43;go_simp;refine hK.out _ _ hHeld (fun hHeld=>?_);clear hK K h43
   try simp only[Act.put,qa,qb,qc]
   refine bc (i:=12) (x:=some 45) rfl fun K hK=>?_;go_simp;obtain⟨w2',hv⟩:∃X,X=w1'.alloc (.cells #[.slice A2 n c2',.int .i64 mx] 96):=⟨_,rfl⟩
   obtain⟨nb,hnb⟩:=af w1'.heap.size
   have hbk:Below w1'.heap.size w1' w2':=by rw[hv];exact bM _
   have hNB:ae w2' nb 96 #[.slice A2 n c2',.int .i64 mx]:=by rw[hv,hnb];exact ae.new _ _ _
   have T2:=U1.below hbk;have hb2:Below w1.heap.size w1 w2':=hb1.trans (hbk.mono hb1.size);replace hR2:=hR2.next hbk;replace hFr:∀a,A2=some a->a.block < w2'.heap.size:=fun a e=>bg (hFr a e) hbk.size;rw[<-hv,<-hnb];refine hK.out _ _ ⟨hHeld.1.more hbk,(hbk.cell (p:=⟨g,40,none⟩) U1.blk.lt).trans hHeld.2⟩ (fun hHeld=>?_);clear hK K hbk hv hnb
  rotate_left
  focus
   skip;rw[if_pos (by rfl)];go_simp;obtain⟨w2',hv⟩:∃X,X=w1'.alloc (.cells #[.slice A2 n c2',.int .i64 mx] 96):=⟨_,rfl⟩
   obtain⟨nb,hnb⟩:=af w1'.heap.size
   have hbk:Below w1'.heap.size w1' w2':=by rw[hv];exact bM _
   have hNB:ae w2' nb 96 #[.slice A2 n c2',.int .i64 mx]:=by rw[hv,hnb];exact ae.new _ _ _
   have T2:=U1.below hbk;have hb2:Below w1.heap.size w1 w2':=hb1.trans (hbk.mono hb1.size);replace hR2:=hR2.next hbk;replace hFr:∀a,A2=some a->a.block < w2'.heap.size:=fun a e=>bg (hFr a e) hbk.size;rw[<-hv,<-hnb];refine hK.out _ _ ⟨hHeld.1.more hbk,(hbk.cell (p:=⟨g,40,none⟩) U1.blk.lt).trans hHeld.2⟩ (fun hHeld=>?_);clear hK K hbk hv hnb
   try simp only[Act.put,qa,qb,qc]
   refine bc (i:=4) (x:=some 37) rfl fun K hK=>?_;have h43:=T2.cq;rw[<-HPL.out]at h43;go_simp;refine hK.out _ _ hHeld (fun hHeld=>?_);clear hK K h43
 all_goals
  try simp only[Act.put,qa,qb,qc]
  refine bc (i:=13) (x:=some 46) rfl fun K hK=>?_;have hSL:=T2.q;rw[<-HPL.out]at hSL;refine bB _ _ _ _ rfl w2' 96 iw (.agg #[.slice none 0 0,.int .i64 0]) 2 32 Tryz.underlying88 hiw hiwz hiws hiwb rfl qA ql qc (lq.flatMap WE.cells) rfl hSL _ rfl 1 [.slice A2 n c2',.int .i64 mx] (Src.ofSlice _ Tryz.underlying88 ⟨nb,0,none⟩ 1 1 _ rfl (fun j u hu=>by
    have hj:j < 2:=(List.getElem?_eq_some_iff.1 hu).1;rw[Addr.add_lit,Nat.zero_add,hNB.cell j];simpa using hu) (by simp[Value.oneCell'])) (by decide) (by unfold maxLen;have:=HQ6.out;omega) (by have:=HQ6.out;omega) ?_
  intro A9 c9 wA hSL9 hK9 hA9;dsimp only;have hA9n:∀a,A9=some a->(∃a',qA=some a'/\a.block=a'.block)\/w2'.heap.size<=a.block:=hA9;refine hK.out _ _ ⟨hHeld.1.trans hK9 (fun j _ hj=>.inr hj),(hK9.cell (p:=⟨g,40,none⟩) T2.blk.lt (fun⟨a,ha,e⟩=>T2.gq a ha e)).trans hHeld.2⟩ (fun hHeld=>?_);clear hK K
  try simp only[Act.put,qa,qb,qc]
  refine bF (i:=14) (x:=some 47) (v:=.pointer (some ⟨g,0,none⟩)) rfl ?_;refine bF (i:=15) (x:=some 48) (v:=.pointer (some ⟨g,42,none⟩)) rfl ?_;refine bc (i:=16) (x:=none) rfl fun K hK=>?_;have hg9:ae wA g 91 _:=hK9.blk T2.blk (fun⟨a,ha,e⟩=>T2.gq a ha e);have hc43:wA.cell? ⟨g,42,none⟩=some (.slice qA lq.length qc):=(hg9.cell 42).trans (bv s1.C.arr_size 3);have hf43:=hg9.frozen 42;have T9:=T2.moreR (R':=fun j=>R1 j\/∃a,A2=some a/\j=a.block) (fun j hj=>.inl hj) (fun j hw hr=>by rcases hr with hr | ⟨a,ha,e⟩;exact T2.dis j hw hr;exact hW2 j hw a ha e) (fun j hr=>by rcases hr with hr | ⟨a,ha,e⟩;exact T2.rin j hr;(rw[e];exact hFr a ha));have hpk9:∀e:WE,e∈lq++[(⟨⟨n,z,mx⟩,A2,c2'⟩:WE)]->ci wA (fun j=>R1 j\/∃a,A2=some a/\j=a.block) e.A e.v.n e.c e.v.z:=fun e he=>by
   have hx:ci w2' (fun j=>R1 j\/∃a,A2=some a/\j=a.block) e.A e.v.n e.c e.v.z:=by
    rcases List.mem_append.1 he with he | he
    ·exact T9.qe e he
    ·have:e=(⟨⟨n,z,mx⟩,A2,c2'⟩:WE):=by simpa using he
     rw[this]
     exact ci.of_clone HNP.out.1 HNP.out.2 hc2 A0.byte hR2
   exact hx.keep hK9 (fun j ⟨a,ha,e2⟩ hr=>T9.dis j (by rw[e2];exact T9.wq a ha) hr)
  have hlen9:(lq++[(⟨⟨n,z,mx⟩,A2,c2'⟩:WE)]).length=ql+1:=by rw[List.length_append,HPL.out];rfl
  have hSL9':SL wA 96 2 A9 (lq++[(⟨⟨n,z,mx⟩,A2,c2'⟩:WE)]).length c9 ((lq++[(⟨⟨n,z,mx⟩,A2,c2'⟩:WE)]).flatMap WE.cells):=by
   rw[hlen9,List.flatMap_append]
   exact hSL9
  have TF:=T9.setQ hK9 hA9n hSL9' hpk9;rw[hlen9,List.map_append,T2.qv]at TF;have HTF:=Lib.hid TF;have hS9:aa (fun j=>j=g\/∃a,qA=some a/\j=a.block) w1 (wA.setCell ⟨g,42,none⟩ (.slice A9 (ql+1) c9)):=hHeld.1.setCell (p:=⟨g,42,none⟩) (.inl rfl) _;have hS40:(wA.setCell ⟨g,42,none⟩ (.slice A9 (ql+1) c9)).cell? ⟨g,40,none⟩=some (.int .i64 mx):=by rw[HTF.out.cnow,HMX.out]
  have HKF:=Lib.hid (hS9.mono (G:=W1) (fun k h=>by rcases h with h | ⟨a,ha,e⟩;rw[h];exact T2.wg;rw[e];exact T2.wq a ha));have HWF:=Lib.hid (show ∀k,(W1 k\/∃a,A9=some a/\k=a.block)->W1 k\/w1.heap.size<=k from fun k hk=>by
   rcases hk with hk | ⟨a,ha,e⟩
   ·exact .inl hk
   ·rcases hA9n a ha with ⟨a',ha',e'⟩ | hge
    ·exact .inl (by rw[e,e'];exact T2.wq a' ha')
    ·exact .inr (by have:=hb2.size;omega))
  have HRF:=Lib.hid (show ∀k,(R1 k\/∃a,A2=some a/\k=a.block)->R1 k\/w1.heap.size<=k from fun k hk=>by
   rcases hk with hk | ⟨a,ha,e⟩
   ·exact .inl hk
   ·exact .inr (by have:=hFl a ha;have:=hb0.size;omega))
  clear TF hSL9 hSL9' hpk9 hK9 hA9 hA9n T9 hg9 hSL;go_simp;refine hK.out _ _ ⟨hS9,hS40⟩ (fun hHeld=>?_);clear hK K hS9 hS40
  try simp only[Act.put]
  refine wpAnyH_done (by kernel_rfl) ?_ _;go_wp2;go_ret;refine⟨rfl,jy.comp HW1.out HR1.out HK1.out ⟨_,_,⟨A9,c9,lq++[(⟨⟨n,z,mx⟩,A2,c2'⟩:WE)],pA,pc,lp,ub,cb,?_⟩,HWF.out,HRF.out,HKF.out⟩⟩
  ·exact(by
    have hh:=HTF.out;rw[show max s.now t=mx from by rw[HMX.out,HNOW.out]]
    exact hh)
theorem sc (g:Nat) (s:TS) (W R:Nat->Prop) (w:World) (h:dK w g s W R) (hf:s.Fine) (hql:s.Q.length<=1000000) (t:Int) (ht1:-9223372036854775808<=t) (ht2:t<=9223372036854775807) (A:Option Addr) (n c:Nat) (z:Nat->Int) (ha:oR w W A n z) (hn9:n<=1000000) :
  Calls Tryz.prog 12 #[.pointer (some ⟨g,0,none⟩),.int .i64 t,.slice A n c] w fun e w'=>e=.returned (.int .i64 (s.submit t n z).1)/\jy W R w w' g (s.submit t n z).2:=by
 cases hcm:s.C.cm
 ·exact oS g s W R w h hf hcm hql t ht1 ht2 A n c z ha hn9
 ·exact nE g s W R w h hf hcm hql t ht1 ht2 A n c z ha hn9
def lm (pn:Nat->Nat):Nat->Int
 | 0=>0
 | k+1=>wrap64 (lm pn k+(pn k:Int))
def fw (m mq:Nat) (pn:Nat->Nat):Bool:=decide (m<=40/\mq<=10/\lm pn m<=2000)
theorem rd (nx:Int) (us:Bool) (A A2:Option Addr) (m c1 mq c2:Nat) (ct:Nat->Int) (PA:Nat->Option Addr) (pn pc:Nat->Nat) (z:Nat->Nat->Int) (w:World) (hm:m<=maxLen) (hmq:mq<=maxLen) (h:fC w A m ct PA pn pc z) :
  Calls Tryz.prog 6 #[.agg #[.int .u32 nx,.bool us,.slice A m c1,.slice A2 mq c2]] w fun e w'=>e=.returned (.bool (fw m mq pn))/\Below w.heap.size w w':=by
 unfold maxLen at hm hmq;have HC:=Lib.hid h;clear h;have hm':(m:Int)<=9223372036854775807:=by omega
 have hmq':(mq:Int)<=9223372036854775807:=by omega
 go_enter Tryz.func6,Tryz.ntmps6;go_upto_region 1 with (fail)
 refine ag (fun V=>ae V w.heap.size 30 #[.int .u32 nx,.bool us,.slice A m c1,.slice A2 mq c2]/\Below w.heap.size w V) ⟨ae.new _ _ _,bM _⟩ ?_;rintro w1 ⟨b1,b2⟩;obtain⟨fb,hfb⟩:=af w.heap.size
 rw[<-hfb]at b1;rw[show(Value.pointer (some ⟨w.heap.size,0,none⟩))=.pointer (some ⟨fb,0,none⟩) by rw[hfb]];have x2:=b1.cell 2;have x3:=b1.cell 3;simp at x2 x3;have B1:=Lib.hid b2;have HC1:=Lib.hid (HC.out.below b2);have HFB:=Lib.hid hfb;clear b1 b2 hfb;go_wp2;go_loop [3,4] (fun v u=>∃k:Nat,k<=50/\k<=m/\u=.int .i64 k/\v=.int .i64 (lm pn k)) (fun _ u=>50-(intOf u).toNat)
 case atStart=>exact⟨0,by omega,by omega,rfl,rfl⟩
 case round=>
  obtain⟨k,hk50,hk,rfl,rfl⟩:=hrel;have HTT:=Lib.hid (show lm pn (k+1)=wrap64 (lm pn k+(pn k:Int))from rfl);obtain⟨t,ht⟩:=af (lm pn k)
  rw[<-ht];rw[<-ht]at HTT;have HT0:=Lib.hid ht;clear ht;by_cases hlt:k < m
  ·by_cases h50:k < 50
   ·obtain⟨lb,lo,rfl,hlb,hlc⟩:=HC1.out.at_ (by omega);obtain⟨_,q1⟩:=hlc k hlt;have k0:(0:Int)<=(k:Int):=by omega
    have k1:(k:Int) < (m:Int):=by omega
    have k2:(k:Int) < 50:=by omega
    clear hlc;go_wp2;go_round
    case rel=>exact⟨k+1,by omega,by omega,by go_num,by rw[HTT.out]⟩
    case measure=>simp[intOf];omega
   ·have k1:(k:Int) < (m:Int):=by omega
    have k2:¬(k:Int) < 50:=by omega
    have d1:¬(m:Int)<=40:=by omega
    go_wp2;go_ret
    exact⟨ak (by unfold fw;rw[eq_comm,decide_eq_false_iff_not];omega),B1.out⟩
  ·obtain rfl:k=m:=by omega
   have ht:=HT0.out;have k1:¬(k:Int) < (k:Int):=by omega
   have HT9:=Lib.hid ht;clear ht;by_cases g1:(k:Int)<=40
   ·by_cases g2:(mq:Int)<=10
    ·go_wp2;go_ret
     exact⟨ak (by unfold fw;rw[<-HT9.out];exact decide_eq_decide.2 ⟨fun h=>⟨by omega,by omega,h⟩,fun h=>h.2.2⟩),B1.out⟩
    ·go_wp2;go_ret
     exact⟨ak (by unfold fw;rw[eq_comm,decide_eq_false_iff_not];omega),B1.out⟩
   ·go_wp2;go_ret
    exact⟨ak (by unfold fw;rw[eq_comm,decide_eq_false_iff_not];omega),B1.out⟩
end Go.Proofs.YtiiojpnckbglcaaGreat

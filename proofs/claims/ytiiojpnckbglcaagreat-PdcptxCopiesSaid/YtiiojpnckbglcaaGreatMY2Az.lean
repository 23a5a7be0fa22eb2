import Derived.Test.YtiiojpnckbglcaaGreatMGHz
import Derived.Test.YtiiojpnckbglcaaGreatSEz
import Derived.Test.YtiiojpnckbglcaaGreatY2Hz
import Derived.Test.YtiiojpnckbglcaaGreatMZAz
import Derived.Test.YtiiojpnckbglcaaGreatB1z
set_option maxRecDepth 100000
set_option maxHeartbeats 1600000
set_option linter.unusedVariables false
set_option linter.unusedSimpArgs false
namespace Go.Proofs.YtiiojpnckbglcaaGreat
open Go.RowKit
def dx (S:Nat->Rx) (T:Int):Obj:=.cells (dr true S T) 137 (0,0)
def bN (o:Obj) (m:Int):Prop:=∃x:(Nat->Rx)×Int,o=dx x.1 x.2/\(∀i,i < 16->(x.1 i).Ok)/\0<=x.2/\x.2<=m
theorem bN.mono {o:Obj} {m k:Int} (h:bN o m) (hk:m<=k):bN o k:=by
 obtain⟨x,h1,h2,h3,h4⟩:=h
 exact⟨x,h1,h2,h3,Int.le_trans h4 hk⟩
theorem bN.ok {o:Obj} {m:Int} (h:bN o m):jh o:=by
 obtain⟨x,h1,_⟩:=h
 exact⟨_,h1,aS _ _ _,bG _ _ _ 0 (by decide)⟩
theorem pG:eF=dx (fun _=>Rx.zero) 0:=by kernel_rfl
theorem rj:Rx.zero.Ok:=⟨by decide,by decide,by decide,by decide,by decide⟩
theorem pU (m:Int) (hm:0<=m):bN eF m:=⟨(fun _=>Rx.zero,0),pG,fun i _=>rj,Int.le_refl _,hm⟩
open Classical in
noncomputable def cW (o:Obj):(Nat->Rx)×Int:=if h:∃x:(Nat->Rx)×Int,o=dx x.1 x.2/\(∀i,i < 16->(x.1 i).Ok)/\0<=x.2 then Classical.choose h else (fun _=>Rx.zero,0)
theorem mG {S S':Nat->Rx} {T T':Int} (h:dx S T=dx S' T'):T=T':=by
 unfold dx at h;injection h with h1
 have e1:=bG true S T 225 (by decide);rw[h1,bG true S' T' 225 (by decide)]at e1;have e2:Value.int .i64 T'=Value.int .i64 T:=Option.some.inj e1;injection e2 with _ e3
 exact e3.symm
theorem kJ {o:Obj} {m:Int} (h:bN o m):o=dx (cW o).1 (cW o).2/\(∀i,i < 16->((cW o).1 i).Ok)/\0<=(cW o).2/\(cW o).2<=m:=by
 obtain⟨x,h1,h2,h3,h4⟩:=h;have hx:∃x:(Nat->Rx)×Int,o=dx x.1 x.2/\(∀i,i < 16->(x.1 i).Ok)/\0<=x.2:=⟨x,h1,h2,h3⟩
 have hs:=Classical.choose_spec hx;have e:cW o=Classical.choose hx:=dif_pos hx;rw[e];refine⟨hs.1,hs.2.1,hs.2.2,?_⟩;have:=mG (hs.1.symm.trans h1);omega
noncomputable def kN (C:aP) (o:Obj) (n:Nat) (z:Nat->Int):Nat:=if C.cm=true then dQ (cW o).1 (cW o).2 n z else n
noncomputable def kZ (C:aP) (o:Obj) (n:Nat) (z:Nat->Int):Nat->Int:=if C.cm=true then rq (cW o).1 (cW o).2 n z else z
noncomputable def kO (C:aP) (o:Obj) (n:Nat) (z:Nat->Int):Obj:=if C.cm=true then dx (sA (cW o).1 (cW o).2 n z) (rm (cW o).2 n z) else o
theorem sB {C:aP} {o:Obj} {m:Int} (h:bN o m) (n:Nat) (z:Nat->Int):bN (kO C o n z) (m+1):=by
 obtain⟨h1,h2,h3,h4⟩:=kJ h;unfold kO
 split
 ·refine⟨(_,_),rfl,tC _ _ n z h2,?_⟩;show 0<=rm (cW o).2 n z/\rm (cW o).2 n z<=m+1;unfold rm
  split<;>omega
 ·exact h.mono (by omega)
theorem py (S:Nat->Rx) (T:Int) (n:Nat) (z:Nat->Int) (h1:1<=n) (h9:n<=9000):1<=dQ S T n z/\dQ S T n z<=n+1:=by
 have e:bk n=0:=by unfold bk;rw[if_neg (by omega),if_neg (by omega)]
 unfold dQ;rw[if_neg (not_not_intro e)]
 split
 ·omega
 ·rename_i hp;have hp':cG n z=0:=by omega
  obtain⟨n20,_,_⟩:=dR n z hp';have:fO S T (dv n z)<=19:=by
   unfold fO
   split
   ·omega
   ·split<;>omega
  omega
theorem nB (C:aP) (o:Obj) (n:Nat) (z:Nat->Int) (h1:1<=n) (h9:n<=9000):1<=kN C o n z/\kN C o n z<=n+1:=by
 unfold kN
 split
 ·exact py _ _ n z h1 h9
 ·omega
theorem qE (S:Nat->Rx) (T:Int) (X:Nat->Int) (n:Nat) (z:Nat->Int) (j:Nat):dX S T X n z j=if j < fO S T X then jG S T X z j else z (20+(j-fO S T X)):=by
 unfold dX;simp[cJ,aA]
theorem jf (S:Nat->Rx) (T:Int) (X:Nat->Int):bZ S T X=0\/(bZ S T X=1/\kT (ao S T X) (X 7) < 65536)\/bZ S T X=2:=by
 unfold bZ dj
 split
 ·exact .inl rfl
 ·split
  ·exact .inr (.inr rfl)
  ·split
   ·exact .inr (.inl ⟨rfl,by assumption⟩)
   ·exact .inl rfl
theorem pI (S:Nat->Rx) (T:Int) (n:Nat) (z:Nat->Int) (hok:∀i,i < 16->(S i).Ok) (h1:1<=n) (h9:n<=9000) (hz:∀j,j < n->0<=z j/\z j < 256) (j:Nat) (hj:j < dQ S T n z):0<=rq S T n z j/\rq S T n z j < 256:=by
 have e:bk n=0:=by unfold bk;rw[if_neg (by omega),if_neg (by omega)]
 unfold dQ at hj;rw[if_neg (not_not_intro e)]at hj;unfold rq;by_cases hp:cG n z=0
 ·rw[if_neg (not_not_intro hp)]at hj ⊢;obtain⟨n20,_,_⟩:=dR n z hp;have b5:=ee n z 5;have e5:((2 ^ fo (5+1):Nat):Int)=256:=by decide
  rw[e5]at b5;have hcp:=gn S (dv n z);have hO:=hok _ hcp;obtain⟨X,hX⟩:=af (dv n z)
  rw[<-hX]at b5 hcp hO hj ⊢;unfold bW
  split
  ·unfold bS;rcases jf S T X with h | ⟨h,_⟩ | h<;>rw[h]<;>omega
  ·rename_i hj0;rw[qE];have hg:0<=(S (aN S X)).gen/\(S (aN S X)).gen < 256:=hO.gen;have hb:∀s:Int,0<=(cD (ao S T X) (X 5) (X 6) (X 7) s).gen/\(cD (ao S T X) (X 5) (X 6) (X 7) s).gen < 256:=fun s=>by
    show 0<=(if (S (aN S X)).began=true then ((S (aN S X)).gen+1) % 256 else (S (aN S X)).gen)/\(if (S (aN S X)).began=true then ((S (aN S X)).gen+1) % 256 else (S (aN S X)).gen) < 256
    split<;>omega
   split
   ·rename_i hl;unfold fO at hl;unfold jG;rcases jf S T X with h | ⟨h,ht⟩ | h
    ·rw[if_pos h]at hl ⊢
     split
     ·unfold cv;rw[if_pos h]
      exact hb 0
     ·exact hz _ (by omega)
    ·rw[if_neg (by rw[h];decide),if_pos h]at hl ⊢;obtain⟨_,_,_,n1,n2⟩:=gr S T X (by rw[h];decide);have ht0:0<=kT (ao S T X) (X 7):=by unfold kT;omega
     rcases (by omega:j-1=0\/j-1=1\/j-1=2\/j-1=3\/j-1=4)with e | e | e | e | e<;>rw[e]
     ·show 0<=(cv S T X).gen/\(cv S T X).gen < 256;unfold cv;rw[if_neg (by rw[h];decide),if_pos h]
      exact hb _
     ·show 0<=br (ao S T X) (X 6)/\br (ao S T X) (X 6) < 256;omega
     ·show 0<=kT (ao S T X) (X 7) / 256/\kT (ao S T X) (X 7) / 256 < 256;omega
     ·show 0<=kT (ao S T X) (X 7) % 256/\kT (ao S T X) (X 7) % 256 < 256;omega
     ·exact b5
    ·rw[if_neg (by rw[h];decide),if_neg (by rw[h];decide)]at hl ⊢;obtain⟨_,_,_,n1,n2⟩:=gr S T X (by rw[h];decide);rcases (by omega:j-1=0\/j-1=1)with e | e<;>rw[e]
     ·show 0<=(ao S T X).gen/\(ao S T X).gen < 256
      exact hg
     ·show 0<=br (ao S T X) (X 6)/\br (ao S T X) (X 6) < 256;omega
   ·exact hz _ (by omega)
 ·rw[if_pos hp]at hj ⊢;unfold bW
  split
  ·omega
  ·exact hz _ (by omega)
theorem nR {C:aP} {o:Obj} {m:Int} (h:bN o m) {n:Nat} {z:Nat->Int} (h1:1<=n) (h9:n<=9000) (hz:∀j,j < n->0<=z j/\z j < 256):∀j,j < kN C o n z->0<=kZ C o n z j/\kZ C o n z j < 256:=by
 intro j hj;obtain⟨_,h2,_⟩:=kJ h;unfold kN at hj;unfold kZ
 split
 ·rename_i hc;rw[if_pos hc]at hj
  exact pI _ _ n z h2 h1 h9 hz j hj
 ·rename_i hc;rw[if_neg hc]at hj
  exact hz j hj
noncomputable def fF:KF:=⟨kN,kZ,kO,bN⟩
noncomputable def TS.sendK (s:TS) (t:Int):NX:=s.sendF fF t
def gD (cf:aP) (cb:Nat) (o:Obj) (ct n:Nat) (z:Nat->Int) (w:World) (e:Ending) (w':World):Prop:=kh fF cf cb o ct n z w e w'
def nA (g:Nat) (C:aP):Prop:=ie fF g C
theorem eq.toK {cf:aP} {cb ct n:Nat} {o:Obj} {z:Nat->Int} {w:World} {e:Ending} {w':World} (h:eq cf ct n z w e w') (hcm:cf.cm=false) (ho:w.heap[cb]? = some o):gD cf cb o ct n z w e w':=by
 obtain⟨A,c,h1,h2,h3,h4,h5⟩:=h;have e1:fF.n cf o n z=n:=by show kN cf o n z=n;unfold kN;rw[if_neg (by rw[hcm];decide)]
 have e2:fF.z cf o n z=z:=by show kZ cf o n z=z;unfold kZ;rw[if_neg (by rw[hcm];decide)]
 have e3:fF.o cf o n z=o:=by show kO cf o n z=o;unfold kO;rw[if_neg (by rw[hcm];decide)]
 unfold gD kh;rw[e1,e2,e3]
 exact⟨A,c,h1,h2,h3,h4,aa.of_below h5,(h5.block cb (Array.getElem?_eq_some_iff.1 ho).1).trans ho⟩
theorem qQ (g:Nat) (s:TS) (W R:Nat->Prop) (w:World) (h:bC w g s W R) (hf:s.Fine) (t:Int) (ht1:-9223372036854775808<=t) (ht2:t<=9223372036854775807) (hb:nA g s.C) (mm:Int) (hmm:mm < 4611686018427387903) (hcp:bN s.comp mm) (hpl:s.P.length<=1000000) :
  Calls Tryz.prog 13 #[.pointer (some ⟨g,0,none⟩),.int .i64 t] w (iD W R w g (s.sendK t)):=sm fF g s W R w h hf t ht1 ht2 hb mm hmm hcp hpl
theorem TS.Fine.sendK {s:TS} (h:s.Fine) (t:Int):(s.sendK t).s.Fine:=by
 unfold TS.sendK TS.sendF;have ht:=h.tick t
 split
 ·exact h
 ·split
  ·exact⟨ht.ok,ht.val,ht.at_⟩
  ·split
   ·exact ht
   ·split
    ·exact ht
    ·split
     ·exact ht
     ·rename_i hq _ _
      exact⟨ht.ok,ht.val,fun q hq'=>ht.at_ q (by rw[hq];exact List.mem_cons_of_mem _ hq')⟩
theorem bN.sendK {s:TS} {m:Int} (h:bN s.comp m) (t:Int):bN (s.sendK t).s.comp (m+1):=by
 unfold TS.sendK TS.sendF;have h':=h.mono (show m<=m+1 by omega)
 split
 ·exact h'
 ·split
  ·exact sB h _ _
  ·split
   ·exact h'
   ·split
    ·exact h'
    ·split
     ·exact h'
     ·exact sB h _ _
theorem TS.sendK_len (s:TS) (t:Int):(s.sendK t).s.P.length<=s.P.length+1/\(s.sendK t).s.Q.length<=s.Q.length/\(s.sendK t).s.C=s.C/\(s.sendK t).s.used=s.used:=by
 have hl:=TS.tick_len s t;unfold TS.sendK TS.sendF
 split
 ·exact⟨by show s.P.length<=_;omega,Nat.le_refl _,rfl,rfl⟩
 ·split
  ·exact⟨by show(s.P.set _ _).length<=_;rw[List.length_set];omega,hl,rfl,rfl⟩
  ·split
   ·exact⟨by show s.P.length<=_;omega,hl,rfl,rfl⟩
   ·split
    ·exact⟨by show s.P.length<=_;omega,hl,rfl,rfl⟩
    ·split
     ·exact⟨by show s.P.length<=_;omega,hl,rfl,rfl⟩
     ·rename_i hq _ _;rw[hq,List.length_cons]at hl;refine⟨?_,by dsimp only;omega,rfl,rfl⟩;dsimp only
      split
      ·rw[List.length_append];simp
      ·omega
end Go.Proofs.YtiiojpnckbglcaaGreat
namespace Go.Proofs.YtiiojpnckbglcaaGreat
open Go.RowKit
attribute [local go_sem ↓] Go.wp_at_zero Go.wp_at_succ
theorem kW (g:Nat) (s:TS) (W R:Nat->Prop) (w:World) (h:bC w g s W R) (hf:s.Fine) (hcm:s.C.cm=true) (hql:s.Q.length<=1000000) (t:Int) (ht1:-9223372036854775808<=t) (ht2:t<=9223372036854775807) (A:Option Addr) (n c:Nat) (z:Nat->Int) (ha:kC w W A n z) (hn9:n<=1000000) :
  Calls Tryz.prog 12 #[.pointer (some ⟨g,0,none⟩),.int .i64 t,.slice A n c] w fun e w'=>e=.returned (.int .i64 (s.submit t n z).1)/\cV W R w w' g (s.submit t n z).2:=by
 by_cases hbad:1073741824<=t\/n=0\/9000 < n
 ·exact gQ g s W R w h hf t ht1 ht2 A n c z ha hbad hn9
 have ct:¬1073741824<=t:=fun h=>hbad (.inl h);have cn:¬n=0:=fun h=>hbad (.inr (.inl h));have cl:¬9000 < n:=fun h=>hbad (.inr (.inr h));unfold TS.submit;rw[if_neg ct,if_neg cn,if_neg cl];have HTK:=Lib.hid (aG g s W R w h hf t ht1 ht2);have HA:=Lib.hid ha;have HF:=Lib.hid hf;have n0:(0:Int)<=(n:Int):=by omega
 clear h hf ha;go_enter Tryz.func12,Tryz.ntmps12;rw[if_neg ct,if_neg ct]at HTK;have HCM:=Lib.hid hcm;have HQL:=Lib.hid (bj (s.tick_len t) hql);have HNP:Hid (1<=n/\n<=9000):=Lib.hid (by omega);have hl1:¬((n:Int)=0):=by omega
 have hl2:¬(9000:Int) < (n:Int):=by omega
 have hl3:(n:Int)<=9223372036854775807:=by omega
 clear hbad cn cl hcm hql;obtain⟨s1,hs1⟩:=af (s.tick t)
 have HC1:Hid (s1.C=s.C):=Lib.hid (by rw[hs1];rfl);have HNOW:Hid (s1.now=max s.now t):=Lib.hid (by rw[hs1];rfl);rw[<-hs1]at HTK HQL ⊢;clear hs1;go_upto_region 8 with (go_at_call 42;refine(HTK.out).mono ?_;rintro e w1 ⟨rfl,hO⟩;have HO:=Lib.hid hO;clear hO)
 obtain⟨W1,R1,hI1,hW1,hR1,hK1⟩:=HO.out;obtain⟨qA,qc,lq,pA,pc,lp,ub,cb,hT1⟩:=hI1;have T1:=Lib.hid hT1;have HW1:=Lib.hid hW1;have HR1:=Lib.hid hR1;have HK1:=Lib.hid hK1;have A1:=Lib.hid (HA.out.keep hK1 hW1);have c35:w1.cell? ⟨g,35,none⟩=some (.bool true):=(hT1.cC (j:=35) (by decide)).trans (by rw[show s1.C.cell 35=.bool s1.C.cm from rfl,HC1.out,HCM.out]);clear hT1 hW1 hR1 hK1;have HCK:=Lib.hid (show bk n=0 from by have:=HNP.out;unfold bk;rw[if_neg (by omega),if_neg (by omega)]);have HCC:=Lib.hid (fun V=>eM A n c V);rw[HCK.out]at HCC;go_upto_region 12 with (go_at_call 43;refine(HCC.out _).mono ?_;rintro e wq ⟨rfl,rfl⟩)
 have hgl:=T1.out.blk.lt;obtain⟨w0,hw0⟩:=af w1.drew
 have hb0:Below w1.heap.size w1 w0:=by rw[hw0];exact(Below.refl _ _).drew
 have T0:ba w0 g s1 W1 R1 qA qc lq pA pc lp ub cb:=T1.out.below hb0;have A0:=A1.out.keep (aa.of_below (F:=W1) hb0) (fun k hk=>.inl hk);obtain⟨iw,hiw,hiwz,hiws,hiwb⟩:=fV;have cnow:=T0.cnow;obtain⟨mx,hmx⟩:=af s1.now
 have HMX:=Lib.hid hmx;rw[<-hmx]at cnow;refine wp_region_held_drew (S:=fun w'=>aa (fun j=>j=g\/∃a,qA=some a/\j=a.block) w1 w'/\w'.cell? ⟨g,40,none⟩=some (.int .i64 mx)) (by kernel_rfl) ⟨(aa.refl (w:=w1)).drew,by rw[<-hw0];exact cnow⟩ (fun hHeld=>?_);rw[<-hw0];rw[<-hw0]at hHeld;clear hw0 cnow hmx c35;obtain⟨ql,hql⟩:=af lq.length
 have HPL:=Lib.hid hql;have HQ6:Hid (ql<=1000000):=Lib.hid (by rw[hql];have hq:=congrArg List.length T0.qv;have:=HQL.out;rw[List.length_map]at hq;omega);clear hql;refine dN (i:=0) (x:=some 33) (v:=.pointer (some ⟨g,0,none⟩)) rfl ?_;refine dN (i:=1) (x:=some 34) (v:=.pointer (some ⟨g,0,none⟩)) rfl ?_;refine bu (i:=2) (x:=some 35) (v:=.pointer (some ⟨g,0,none⟩)) rfl ?_;refine bu (i:=3) (x:=some 36) (v:=.pointer (some ⟨g,42,none⟩)) rfl ?_;refine dN (i:=5) (x:=some 38) (v:=.slice A n c) rfl ?_;refine dN (i:=7) (x:=some 40) (v:=.pointer (some ⟨g,0,none⟩)) rfl ?_;refine bu (i:=8) (x:=some 41) (v:=.pointer (some ⟨g,0,none⟩)) rfl ?_;refine bu (i:=9) (x:=some 42) (v:=.pointer (some ⟨g,40,none⟩)) rfl ?_;refine fC (i:=10) (x:=some 43) (v:=.int .i64 mx) rfl (.inl ⟨by rfl,fun W hW=>(by have:=hW.2;go_simp)⟩) ?_;refine wpAnyH_ready (rs:=[4,6]) (by kernel_rfl) (by simp) ?_;refine AllReadyH.cons (o:=⟨some 37,_,_,_,_,_⟩) rfl (fun K hK=>?_) (AllReadyH.cons (o:=⟨some 39,_,_,_,_,_⟩) rfl (fun K hK=>?_) AllReadyH.nil)
 focus
  skip;rw[if_pos (by rfl)];have h43:=T0.cq;rw[<-HPL.out]at h43;go_simp;refine hK.out _ _ hHeld (fun hHeld=>?_);clear hK K h43
  try simp only[Act.put,qa,qb,qc]
  refine bh (i:=6) (x:=some 39) rfl fun K hK=>?_;go_simp;refine(bB A n c z w0 (by omega) A0.row).mono ?_;rintro e w1' ⟨A2,c2',rfl,hc2,hR2,hF2,hbk⟩;dsimp only;have hFl:∀a,A2=some a->w0.heap.size<=a.block:=hF2;have hFr:∀a,A2=some a->a.block < w1'.heap.size:=fun a e=>bT hR2 HNP.out.1 e;have hwl1:∀j,W1 j->j < w0.heap.size:=T0.win;have U1:=T0.below hbk;have hb1:Below w1.heap.size w1 w1':=hb0.trans (hbk.mono hb0.size);have hW2:∀j,W1 j->∀a,A2=some a->j ≠ a.block:=fun j hj a e=>by have:=hFl a e;have:=hwl1 j hj;omega
  refine hK.out _ _ ⟨hHeld.1.more hbk,(hbk.cell (p:=⟨g,40,none⟩) T0.blk.lt).trans hHeld.2⟩ (fun hHeld=>?_);clear hK K hbk hF2
  try simp only[Act.put,qa,qb,qc]
  refine bu (i:=11) (x:=some 44) (v:=.agg #[.slice A2 n c2',.int .i64 mx]) rfl ?_;refine bh (i:=12) (x:=some 45) rfl fun K hK=>?_;go_simp;obtain⟨w2',hv⟩:∃X,X=w1'.alloc (.cells #[.slice A2 n c2',.int .i64 mx] 96):=⟨_,rfl⟩
  obtain⟨nb,hnb⟩:=af w1'.heap.size
  have hbk:Below w1'.heap.size w1' w2':=by rw[hv];exact bR _
  have hNB:ae w2' nb 96 #[.slice A2 n c2',.int .i64 mx]:=by rw[hv,hnb];exact ae.new _ _ _
  have T2:=U1.below hbk;have hb2:Below w1.heap.size w1 w2':=hb1.trans (hbk.mono hb1.size);replace hR2:=hR2.next hbk;replace hFr:∀a,A2=some a->a.block < w2'.heap.size:=fun a e=>bg (hFr a e) hbk.size;rw[<-hv,<-hnb];refine hK.out _ _ ⟨hHeld.1.more hbk,(hbk.cell (p:=⟨g,40,none⟩) U1.blk.lt).trans hHeld.2⟩ (fun hHeld=>?_);clear hK K hbk hv hnb
 rotate_left
 focus
  skip;rw[if_pos (by rfl)];go_simp;refine(bB A n c z w0 (by omega) A0.row).mono ?_;rintro e w1' ⟨A2,c2',rfl,hc2,hR2,hF2,hbk⟩;dsimp only;have hFl:∀a,A2=some a->w0.heap.size<=a.block:=hF2;have hFr:∀a,A2=some a->a.block < w1'.heap.size:=fun a e=>bT hR2 HNP.out.1 e;have hwl1:∀j,W1 j->j < w0.heap.size:=T0.win;have U1:=T0.below hbk;have hb1:Below w1.heap.size w1 w1':=hb0.trans (hbk.mono hb0.size);have hW2:∀j,W1 j->∀a,A2=some a->j ≠ a.block:=fun j hj a e=>by have:=hFl a e;have:=hwl1 j hj;omega
  refine hK.out _ _ ⟨hHeld.1.more hbk,(hbk.cell (p:=⟨g,40,none⟩) T0.blk.lt).trans hHeld.2⟩ (fun hHeld=>?_);clear hK K hbk hF2
  try simp only[Act.put,qa,qb,qc]
  refine bu (i:=11) (x:=some 44) (v:=.agg #[.slice A2 n c2',.int .i64 mx]) rfl ?_;refine wpAnyH_ready (rs:=[4,12]) (by kernel_rfl) (by simp) ?_;refine AllReadyH.cons (o:=⟨some 37,_,_,_,_,_⟩) rfl (fun K hK=>?_) (AllReadyH.cons (o:=⟨some 45,_,_,_,_,_⟩) rfl (fun K hK=>?_) AllReadyH.nil)
  focus
   skip;rw[if_pos (by rfl)];have h43:=U1.cq;rw[<-HPL.out]at h43;go_simp;refine hK.out _ _ hHeld (fun hHeld=>?_);clear hK K h43
   try simp only[Act.put,qa,qb,qc]
   refine bh (i:=12) (x:=some 45) rfl fun K hK=>?_;go_simp;obtain⟨w2',hv⟩:∃X,X=w1'.alloc (.cells #[.slice A2 n c2',.int .i64 mx] 96):=⟨_,rfl⟩
   obtain⟨nb,hnb⟩:=af w1'.heap.size
   have hbk:Below w1'.heap.size w1' w2':=by rw[hv];exact bR _
   have hNB:ae w2' nb 96 #[.slice A2 n c2',.int .i64 mx]:=by rw[hv,hnb];exact ae.new _ _ _
   have T2:=U1.below hbk;have hb2:Below w1.heap.size w1 w2':=hb1.trans (hbk.mono hb1.size);replace hR2:=hR2.next hbk;replace hFr:∀a,A2=some a->a.block < w2'.heap.size:=fun a e=>bg (hFr a e) hbk.size;rw[<-hv,<-hnb];refine hK.out _ _ ⟨hHeld.1.more hbk,(hbk.cell (p:=⟨g,40,none⟩) U1.blk.lt).trans hHeld.2⟩ (fun hHeld=>?_);clear hK K hbk hv hnb
  rotate_left
  focus
   skip;rw[if_pos (by rfl)];go_simp;obtain⟨w2',hv⟩:∃X,X=w1'.alloc (.cells #[.slice A2 n c2',.int .i64 mx] 96):=⟨_,rfl⟩
   obtain⟨nb,hnb⟩:=af w1'.heap.size
   have hbk:Below w1'.heap.size w1' w2':=by rw[hv];exact bR _
   have hNB:ae w2' nb 96 #[.slice A2 n c2',.int .i64 mx]:=by rw[hv,hnb];exact ae.new _ _ _
   have T2:=U1.below hbk;have hb2:Below w1.heap.size w1 w2':=hb1.trans (hbk.mono hb1.size);replace hR2:=hR2.next hbk;replace hFr:∀a,A2=some a->a.block < w2'.heap.size:=fun a e=>bg (hFr a e) hbk.size;rw[<-hv,<-hnb];refine hK.out _ _ ⟨hHeld.1.more hbk,(hbk.cell (p:=⟨g,40,none⟩) U1.blk.lt).trans hHeld.2⟩ (fun hHeld=>?_);clear hK K hbk hv hnb
   try simp only[Act.put,qa,qb,qc]
   refine bh (i:=4) (x:=some 37) rfl fun K hK=>?_;have h43:=T2.cq;rw[<-HPL.out]at h43;go_simp;refine hK.out _ _ hHeld (fun hHeld=>?_);clear hK K h43
 all_goals
  try simp only[Act.put,qa,qb,qc]
  refine bh (i:=13) (x:=some 46) rfl fun K hK=>?_;have hSL:=T2.q;rw[<-HPL.out]at hSL;refine bo _ _ _ _ rfl w2' 96 iw (.agg #[.slice none 0 0,.int .i64 0]) 2 32 Tryz.underlying88 hiw hiwz hiws hiwb rfl qA ql qc (lq.flatMap WE.cells) rfl hSL _ rfl 1 [.slice A2 n c2',.int .i64 mx] (Src.ofSlice _ Tryz.underlying88 ⟨nb,0,none⟩ 1 1 _ rfl (fun j u hu=>by
    have hj:j < 2:=(List.getElem?_eq_some_iff.1 hu).1;rw[Addr.add_lit,Nat.zero_add,hNB.cell j];simpa using hu) (by simp[Value.oneCell'])) (by decide) (by unfold maxLen;have:=HQ6.out;omega) (by have:=HQ6.out;omega) ?_
  intro A9 c9 wA hSL9 hK9 hA9;dsimp only;have hA9n:∀a,A9=some a->(∃a',qA=some a'/\a.block=a'.block)\/w2'.heap.size<=a.block:=hA9;refine hK.out _ _ ⟨hHeld.1.trans hK9 (fun j _ hj=>.inr hj),(hK9.cell (p:=⟨g,40,none⟩) T2.blk.lt (fun⟨a,ha,e⟩=>T2.gq a ha e)).trans hHeld.2⟩ (fun hHeld=>?_);clear hK K
  try simp only[Act.put,qa,qb,qc]
  refine bu (i:=14) (x:=some 47) (v:=.pointer (some ⟨g,0,none⟩)) rfl ?_;refine bu (i:=15) (x:=some 48) (v:=.pointer (some ⟨g,42,none⟩)) rfl ?_;refine bh (i:=16) (x:=none) rfl fun K hK=>?_;have hg9:ae wA g 91 _:=hK9.blk T2.blk (fun⟨a,ha,e⟩=>T2.gq a ha e);have hc43:wA.cell? ⟨g,42,none⟩=some (.slice qA lq.length qc):=(hg9.cell 42).trans (aE s1.C.arr_size 3);have hf43:=hg9.frozen 42;have T9:=T2.moreR (R':=fun j=>R1 j\/∃a,A2=some a/\j=a.block) (fun j hj=>.inl hj) (fun j hw hr=>by rcases hr with hr | ⟨a,ha,e⟩;exact T2.dis j hw hr;exact hW2 j hw a ha e) (fun j hr=>by rcases hr with hr | ⟨a,ha,e⟩;exact T2.rin j hr;(rw[e];exact hFr a ha));have hpk9:∀e:WE,e∈lq++[(⟨⟨n,z,mx⟩,A2,c2'⟩:WE)]->bE wA (fun j=>R1 j\/∃a,A2=some a/\j=a.block) e.A e.v.n e.c e.v.z:=fun e he=>by
   have hx:bE w2' (fun j=>R1 j\/∃a,A2=some a/\j=a.block) e.A e.v.n e.c e.v.z:=by
    rcases List.mem_append.1 he with he | he
    ·exact T9.qe e he
    ·have:e=(⟨⟨n,z,mx⟩,A2,c2'⟩:WE):=by simpa using he
     rw[this]
     exact bE.of_clone HNP.out.1 HNP.out.2 hc2 A0.byte hR2
   exact hx.keep hK9 (fun j ⟨a,ha,e2⟩ hr=>T9.dis j (by rw[e2];exact T9.wq a ha) hr)
  have hlen9:(lq++[(⟨⟨n,z,mx⟩,A2,c2'⟩:WE)]).length=ql+1:=by rw[List.length_append,HPL.out];rfl
  have hSL9':SL wA 96 2 A9 (lq++[(⟨⟨n,z,mx⟩,A2,c2'⟩:WE)]).length c9 ((lq++[(⟨⟨n,z,mx⟩,A2,c2'⟩:WE)]).flatMap WE.cells):=by
   rw[hlen9,List.flatMap_append]
   exact hSL9
  have TF:=T9.setQ hK9 hA9n hSL9' hpk9;rw[hlen9,List.map_append,T2.qv]at TF;have HTF:=Lib.hid TF;have hS9:aa (fun j=>j=g\/∃a,qA=some a/\j=a.block) w1 (wA.setCell ⟨g,42,none⟩ (.slice A9 (ql+1) c9)):=hHeld.1.setCell (p:=⟨g,42,none⟩) (.inl rfl) _;have hS40:(wA.setCell ⟨g,42,none⟩ (.slice A9 (ql+1) c9)).cell? ⟨g,40,none⟩=some (.int .i64 mx):=by rw[HTF.out.cnow,HMX.out]
  have HKF:=Lib.hid (hS9.mono (G:=W1) (fun k h=>by rcases h with h | ⟨a,ha,e⟩;rw[h];exact T2.wg;rw[e];exact T2.wq a ha));have HWF:=Lib.hid (show ∀k,(W1 k\/∃a,A9=some a/\k=a.block)->W1 k\/w1.heap.size<=k from fun k hk=>by
   rcases hk with hk | ⟨a,ha,e⟩
   ·exact .inl hk
   ·rcases hA9n a ha with ⟨a',ha',e'⟩ | hge
    ·exact .inl (by rw[e,e'];exact T2.wq a' ha')
    ·exact .inr (by have:=hb2.size;omega))
  have HRF:=Lib.hid (show ∀k,(R1 k\/∃a,A2=some a/\k=a.block)->R1 k\/w1.heap.size<=k from fun k hk=>by
   rcases hk with hk | ⟨a,ha,e⟩
   ·exact .inl hk
   ·exact .inr (by have:=hFl a ha;have:=hb0.size;omega))
  clear TF hSL9 hSL9' hpk9 hK9 hA9 hA9n T9 hg9 hSL;go_simp;refine hK.out _ _ ⟨hS9,hS40⟩ (fun hHeld=>?_);clear hK K hS9 hS40
  try simp only[Act.put]
  refine wpAnyH_done (by kernel_rfl) ?_ _;go_wp2;go_ret;refine⟨rfl,cV.comp HW1.out HR1.out HK1.out ⟨_,_,⟨A9,c9,lq++[(⟨⟨n,z,mx⟩,A2,c2'⟩:WE)],pA,pc,lp,ub,cb,?_⟩,HWF.out,HRF.out,HKF.out⟩⟩
  ·exact(by
    have hh:=HTF.out;rw[show max s.now t=mx from by rw[HMX.out,HNOW.out]]
    exact hh)
theorem oq (g:Nat) (s:TS) (W R:Nat->Prop) (w:World) (h:bC w g s W R) (hf:s.Fine) (hql:s.Q.length<=1000000) (t:Int) (ht1:-9223372036854775808<=t) (ht2:t<=9223372036854775807) (A:Option Addr) (n c:Nat) (z:Nat->Int) (ha:kC w W A n z) (hn9:n<=1000000) :
  Calls Tryz.prog 12 #[.pointer (some ⟨g,0,none⟩),.int .i64 t,.slice A n c] w fun e w'=>e=.returned (.int .i64 (s.submit t n z).1)/\cV W R w w' g (s.submit t n z).2:=by
 cases hcm:s.C.cm
 ·exact ii g s W R w h hf hcm hql t ht1 ht2 A n c z ha hn9
 ·exact kW g s W R w h hf hcm hql t ht1 ht2 A n c z ha hn9
end Go.Proofs.YtiiojpnckbglcaaGreat

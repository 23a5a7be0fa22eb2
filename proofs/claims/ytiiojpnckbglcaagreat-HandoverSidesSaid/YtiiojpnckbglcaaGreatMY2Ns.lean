import Derived.Test.YtiiojpnckbglcaaGreatMLXs
import Derived.Test.YtiiojpnckbglcaaGreatSCs
import Derived.Test.YtiiojpnckbglcaaGreatB1s
set_option maxRecDepth 100000
set_option maxHeartbeats 3200000
set_option linter.unusedVariables false
set_option linter.unusedSimpArgs false
namespace Go.Proofs.YtiiojpnckbglcaaGreat
open Go.RowKit
def wn (lx:List SE) (k:Nat):Int:=((lx[k]?).map (fun e=>e.v.ct)).getD 0
def xY (lx:List SE) (k:Nat):Option Addr:=((lx[k]?).map (fun e=>e.A)).getD none
def vW (lx:List SE) (k:Nat):Nat:=((lx[k]?).map (fun e=>e.v.n)).getD 0
def xZ (lx:List SE) (k:Nat):Nat:=((lx[k]?).map (fun e=>e.c)).getD 0
def zL (lx:List SE) (k:Nat):Nat->Int:=((lx[k]?).map (fun e=>e.v.z)).getD (fun _=>0)
theorem yc {lx:List SE} {k:Nat} {e:SE} (h:lx[k]? = some e):wn lx k=e.v.ct/\xY lx k=e.A/\vW lx k=e.v.n/\xZ lx k=e.c/\zL lx k=e.v.z:=by
 unfold wn xY vW xZ zL;rw[h]
 exact⟨rfl,rfl,rfl,rfl,rfl⟩
theorem wo (lx:List SE):gt (wn lx) (vW lx) (zL lx) lx.length=lx.map (·.v):=by
 apply List.ext_getElem?;intro k;unfold gt;rw[List.getElem?_map,List.getElem?_map];by_cases hk:k < lx.length
 ·have e1:lx[k]? = some lx[k]:=List.getElem?_eq_getElem hk;obtain⟨h1,h2,h3,h4,h5⟩:=yc e1;rw[List.getElem?_range hk,e1];simp only[Option.map_some,tR,h1,h3,h5]
 ·rw[List.getElem?_eq_none (by rw[List.length_range];omega),List.getElem?_eq_none (by omega)]
  rfl
theorem vN {w:World} {A:Option Addr} {n c:Nat} {lx:List SE} (h:SL w 68 2 A n c (lx.flatMap SE.cc)) (hn:n=lx.length) (hp:∀x,x∈lx->x.v.n<=x.c/\au w w.heap.size x.A x.v.n (fun j=>.int .u8 (x.v.z j))) (hv:∀x,x∈lx->(0<=x.v.ct/\x.v.ct < 4294967296)/\x.v.n<=9000/\∀j,j < x.v.n->0<=x.v.z j/\x.v.z j < 256):fC w A n (wn lx) (xY lx) (vW lx) (xZ lx) (zL lx):=by
 subst hn;have hg:∀k,k < lx.length->∃e,e∈lx/\lx[k]? = some e/\wn lx k=e.v.ct/\xY lx k=e.A/\vW lx k=e.v.n/\xZ lx k=e.c/\zL lx k=e.v.z:=fun k hk=>by
  have e1:lx[k]? = some lx[k]:=List.getElem?_eq_getElem hk
  exact⟨lx[k],List.getElem_mem hk,e1,yc e1⟩
 refine⟨fun hm=>?_,fun k hk=>?_,fun k hk=>?_,fun k hk=>?_,fun k hk=>?_,fun k hk=>?_⟩
 ·obtain⟨b,o,hA,hb⟩:=h.some_ (by omega);refine⟨b,o,hA,hb,fun k hk=>?_⟩;obtain⟨e,he,hx,h1,h2,h3,h4,h5⟩:=hg k hk;have c0:=h.cell hA (j:=k*2+0) (by omega);have c1:=h.cell hA (j:=k*2+1) (by omega);rw[bp SE.cc 2 SE.cclen lx k _ e hx (by omega)]at c0 c1;rw[h1,h2,h3,h4]
  exact⟨c0,c1⟩
 ·obtain⟨e,he,hx,h1,h2,h3,h4,h5⟩:=hg k hk;rw[h1];exact(hv e he).1
 ·obtain⟨e,he,hx,h1,h2,h3,h4,h5⟩:=hg k hk;rw[h3];have:=(hv e he).2.1;omega
 ·obtain⟨e,he,hx,h1,h2,h3,h4,h5⟩:=hg k hk;rw[h3,h4];exact(hp e he).1
 ·obtain⟨e,he,hx,h1,h2,h3,h4,h5⟩:=hg k hk;rw[h3,h5];exact(hv e he).2.2
 ·obtain⟨e,he,hx,h1,h2,h3,h4,h5⟩:=hg k hk;rw[h2,h3,h5];exact(hp e he).2
theorem sV {s:RS} {m:Nat} {ct:Nat->Int} {pn:Nat->Nat} {z:Nat->Nat->Int} (hw:ma s) (hok:s.Ok) (hf:∀v,v∈s.L->1<=v.n/\v.n<=9000) (hm:m=s.L.length) (he:gt ct pn z m=s.L):lL s.deliver s.next m ct pn:=by
 have hg:∀k,k < m->∃v,s.L[k]? = some v/\v∈s.L/\ct k=v.ct/\pn k=v.n:=fun k hk=>by
  have h1:(gt ct pn z m)[k]? = some (tR ct pn z k):=by
   unfold gt;rw[List.getElem?_map,List.getElem?_range hk]
   rfl
  rw[he]at h1
  exact⟨_,h1,List.mem_of_getElem? h1,rfl,rfl⟩
 have hasc:∀i j,i < j->j < m->ct i < ct j:=fun i j hij hj=>by
  obtain⟨v,h1,h2,h3,h4⟩:=hg i (by omega);obtain⟨v',h1',h2',h3',h4'⟩:=hg j hj;have h5:=List.pairwise_iff_getElem.1 hw.asc i j (by omega) (by omega) hij;rw[List.getElem?_eq_getElem (by omega)]at h1 h1';rw[h3,h3',<-Option.some.inj h1,<-Option.some.inj h1']
  exact h5
 refine⟨⟨hw.le,hok.next,hw.win⟩,fun k hk=>?_,?_⟩
 ·obtain⟨v,h1,h2,h3,h4⟩:=hg k hk;have h5:=hw.rng v h2;have h6:=hf v h2;refine⟨?_,by rw[h3];exact h5.2,by rw[h4];exact h6.1,by rw[h4];exact h6.2⟩
  cases k with
  | zero=>show s.deliver < ct 0;rw[h3];exact h5.1
  | succ k=>rw[ei];exact hasc k (k+1) (by omega) hk
 ·rcases hw.last with h | ⟨e,he2,h⟩
  ·exact .inl h
  ·obtain⟨j,hj,hje⟩:=List.getElem_of_mem he2;have hj2:s.L[j]? = some e:=by rw[List.getElem?_eq_getElem hj,hje]
   obtain⟨v,h1,h2,h3,h4⟩:=hg j (by omega);rw[hj2]at h1;have hve:ct j=e.ct:=by rw[h3,<-Option.some.inj h1]
   cases m with
   | zero=>omega
   | succ m=>
    obtain⟨v',h1',h2',h3',h4'⟩:=hg m (by omega);have h5:=hw.rng v' h2';refine .inr ?_;rw[ei];have h6:ct j<=ct m:=by
     by_cases hjm:j=m
     ·rw[hjm];exact Int.le_refl _
     ·exact Int.le_of_lt (hasc j m (by omega) (by omega))
    constructor<;>omega
def TS.moved (s:TS) (cf:aZ):TS:=⟨cf,0,s.next,s.Q.map (fun q=>{ q with at_:=0 }),s.P.map PV.again,[aw cf.key],i6⟩
structure yE (s:TS):Prop where
 nx:0<=s.next/\s.next<=4294967296
 asc:(s.P.map (·.ct)).Pairwise (· < ·)
 pend:∀p,p∈s.P->0<=p.ct/\p.ct < s.next/\s.next-p.ct<=2048
 ack:s.P ≠ []->s.C.ac=true
section
variable {w w1 w' V w0:World} {B g h:Nat} {s r:TS} {A A2:Option Addr} {c c2:Nat} {lp:List PE} {lq:List WE}
theorem xV {l:List PV} (h:(l.map (·.ct)).Pairwise (· < ·)) {k:Nat} {a b:PV} (ha:l[k]? = some a) (hb:l[k+1]? = some b):a.ct < b.ct:=by
 have h1:=(List.getElem?_eq_some_iff.1 ha)
 have h2:=(List.getElem?_eq_some_iff.1 hb)
 obtain⟨h3,rfl⟩:=h1;obtain⟨h4,rfl⟩:=h2;have h5:=List.pairwise_iff_getElem.1 h k (k+1) (by rw[List.length_map];exact h3) (by rw[List.length_map];exact h4) (by omega);simpa using h5
theorem fE (hn:0<=s.next/\s.next<=4294967296):bi (s.next % 4294967296) (decide (s.next=4294967296))=s.next:=by
 unfold bi;by_cases e:s.next=4294967296
 ·rw[decide_eq_true e,if_pos rfl,e]
 ·rw[decide_eq_false e,if_neg (by decide)];omega
theorem vl (hf:yC w B s.P s.Q A c lp A2 c2 lq) (hi:yE s):∃ct PA pn pc z QA qn qc y,fC w A s.P.length ct PA pn pc z/\dW w A2 s.Q.length QA qn qc y/\(∀cf,eB cf s.next s.P.length ct pn z s.Q.length qn y=s.moved cf)/\sR s.C.ac (s.next % 4294967296) (decide (s.next=4294967296)) s.P.length ct pn s.Q.length qn:=by
 have p1:=hf.pv;have q1:=hf.qv;have p2:=hf.p;have q2:=hf.q;have hl:s.P.length=lp.length:=by rw[<-p1,List.length_map]
 have hm:s.Q.length=lq.length:=by rw[<-q1,List.length_map]
 obtain⟨E,hE⟩:∃E:Nat->PE,∀k,k < s.P.length->lp[k]? = some (E k):=⟨fun k=>lp.getD k ⟨⟨0,0,fun _=>0,false⟩,none,0⟩,fun k hk=>by
  dsimp only;rw[List.getD_eq_getElem?_getD,List.getElem?_eq_getElem (by omega)]
  rfl⟩
 obtain⟨D,hD⟩:∃D:Nat->WE,∀k,k < s.Q.length->lq[k]? = some (D k):=⟨fun k=>lq.getD k ⟨⟨0,fun _=>0,0⟩,none,0⟩,fun k hk=>by
  dsimp only;rw[List.getD_eq_getElem?_getD,List.getElem?_eq_getElem (by omega)]
  rfl⟩
 have hPk:∀k,k < s.P.length->s.P[k]? = some (E k).v:=fun k hk=>by rw[<-p1,List.getElem?_map,hE k hk];rfl
 have hQk:∀k,k < s.Q.length->s.Q[k]? = some (D k).v:=fun k hk=>by rw[<-q1,List.getElem?_map,hD k hk];rfl
 have hcp:∀k,k < s.P.length->ci w (fun k=>B<=k) (E k).A (E k).v.n (E k).c (E k).v.z:=fun k hk=>hf.pe _ (List.mem_of_getElem? (hE k hk));have hcq:∀k,k < s.Q.length->ci w (fun k=>B<=k) (D k).A (D k).v.n (D k).c (D k).v.z:=fun k hk=>hf.qe _ (List.mem_of_getElem? (hD k hk));have hpd:∀k,k < s.P.length->0<=(E k).v.ct/\(E k).v.ct < s.next/\s.next-(E k).v.ct<=2048:=fun k hk=>hi.pend _ (List.mem_of_getElem? (hPk k hk));have hnx:=hi.nx;refine⟨fun k=>(E k).v.ct,fun k=>(E k).A,fun k=>(E k).v.n,fun k=>(E k).c,fun k=>(E k).v.z,fun k=>(D k).A,fun k=>(D k).v.n,fun k=>(D k).c,fun k=>(D k).v.z,⟨fun h0=>?_,fun k hk=>?_,fun k hk=>?_,fun k hk=>(hcp k hk).cap,fun k hk=>(hcp k hk).byte,fun k hk=>(hcp k hk).row⟩,⟨fun h0=>?_,fun k hk=>?_,fun k hk=>(hcq k hk).cap,fun k hk=>(hcq k hk).byte,fun k hk=>(hcq k hk).row⟩,fun cf=>?_,⟨fun hu=>?_,fun h0=>?_,fun k hk=>⟨?_,?_,fun h0=>?_⟩,fun h0=>?_,fun k hk=>?_⟩⟩
 ·obtain⟨b,o,hA,hb⟩:=p2.some_ (by omega);refine⟨b,o,hA,hb,fun k hk=>?_⟩;have hc:∀j,j < 2->w.cell? ⟨b,o+k*2+j,none⟩=(PE.cc (E k))[j]?:=fun j hj=>by
   have:=p2.cell hA (j:=k*2+j) (by omega);rw[<-Nat.add_assoc]at this;rw[this]
   exact bp PE.cc 2 (fun _=>rfl) lp k j _ (hE k hk) hj
  exact⟨hc 0 (by decide),hc 1 (by decide)⟩
 ·have:=hpd k hk;show 0<=(E k).v.ct/\(E k).v.ct < 4294967296;omega
 ·have:=(hcp k hk).max;show(E k).v.n<=_;omega
 ·obtain⟨b,o,hA,hb⟩:=q2.some_ (by omega);refine⟨b,o,hA,hb,fun k hk=>?_⟩;have:=q2.cell hA (j:=k*1+0) (by omega);rw[Nat.mul_one,Nat.add_zero]at this;rw[this];have h2:=bp WE.cc 1 (fun _=>rfl) lq k 0 _ (hD k hk) (by decide);rw[Nat.mul_one,Nat.add_zero]at h2
  exact h2
 ·have:=(hcq k hk).max;show(D k).v.n<=_;omega
 ·unfold eB TS.moved;have h1:ee s.Q.length (fun k=>(D k).v.n) (fun k=>(D k).v.z)=s.Q.map (fun q=>{ q with at_:=0 }):=by
   unfold ee;apply List.ext_getElem?;intro k;by_cases hk:k < s.Q.length
   ·rw[List.getElem?_map,List.getElem?_range hk,List.getElem?_map,hQk k hk]
    rfl
   ·rw[List.getElem?_eq_none (by simp;omega),List.getElem?_eq_none (by simp;omega)]
  have h2:cz s.P.length (fun k=>(E k).v.ct) (fun k=>(E k).v.n) (fun k=>(E k).v.z)=s.P.map PV.again:=by
   unfold cz;apply List.ext_getElem?;intro k;by_cases hk:k < s.P.length
   ·rw[List.getElem?_map,List.getElem?_range hk,List.getElem?_map,hPk k hk]
    rfl
   ·rw[List.getElem?_eq_none (by simp;omega),List.getElem?_eq_none (by simp;omega)]
  rw[h1,h2]
 ·have:=of_decide_eq_true hu;omega
 ·refine hi.ack (fun e=>?_);rw[e]at h0;simp at h0
 ·rw[iB]
  exact⟨(hcp k hk).pos,(hcp k hk).max⟩
 ·rw[fE hi.nx]
  exact(hpd k hk).2.1
 ·obtain⟨j,rfl⟩:∃j,k=j+1:=⟨k-1,by omega⟩
  rw[Nat.add_sub_cancel]
  exact xV hi.asc (hPk j (by omega)) (hPk (j+1) hk)
 ·rw[fE hi.nx]
  exact(hpd 0 h0).2.2
 ·rw[iB]
  exact⟨(hcq k hk).pos,(hcq k hk).max⟩
theorem sX (g:Nat) (s:TS) (W R:Nat->Prop) (w:World) (h:dK w g s W R) (hi:yE s) (hP:s.P.length<=1000000) (hQ:s.Q.length<=1000000) :
  Calls Tryz.prog 15 #[.pointer (some ⟨g,0,none⟩)] w fun e w1=>∃FA:Array Value,e=.returned (.agg FA)/\FA.size=4/\Below w.heap.size w w1/\∀(cf:aZ) (V:World),cf.Valid->cf.ac=s.C.ac->Below w1.heap.size w1 V->Calls Tryz.prog 10 #[.agg cf.arr,.agg FA] V (qN (s.moved cf) V):=by
 refine(jW g s W R w h ⟨hP,hQ⟩).mono ?_;rintro e w1 ⟨pA,pc,lp,qA,qc,lq,rfl,hf,hb⟩;refine⟨_,rfl,rfl,hb,fun cf V hv hac hV=>?_⟩;obtain⟨ct,PA,pn,pcs,z,QA,qn,qcs,y,h1,h2,h3,h4⟩:=vl hf hi;have hl:lp.length=s.P.length:=by rw[<-hf.pv,List.length_map]
 have hm:lq.length=s.Q.length:=by rw[<-hf.qv,List.length_map]
 have hn:=hi.nx;have hr:=gO cf pA qA s.P.length pc s.Q.length qc (s.next % 4294967296) (decide (s.next=4294967296)) ct PA pn pcs z QA qn qcs y V (by omega) hP hQ (h1.below hV) (h2.below hV) hv (by rw[hac];exact h4);rw[fE hi.nx,h3]at hr;rw[hl,hm]
 exact hr
end
theorem tj (g:Nat) (s:RS) (W R:Nat->Prop) (sb:Nat) (l:List SE) (ub eb:Nat) (w:World) (h:eI w g s W R sb l ub eb) (hW:ma s) (hl:s.L.length<=250) :
  Calls Tryz.prog 41 #[.pointer (some ⟨g,0,none⟩)] w fun e w1=>∃SA:Array Value,e=.returned (.agg SA)/\SA.size=3/\Below w.heap.size w w1/\∀(cf:aZ) (V:World),cf.Valid->Below w1.heap.size w1 V->Calls Tryz.prog 59 #[.agg cf.arr,.agg SA] V (lS cf s.deliver s.next s.L V):=by
 have hl1:l.length=s.L.length:=by rw[<-h.lv,List.length_map]
 have hfit:∀v,v∈s.L->1<=v.n/\v.n<=9000:=fun v hv=>by
  rw[<-h.lv,List.mem_map]at hv;obtain⟨x,hx,rfl⟩:=hv
  exact⟨(h.pk x hx).pos,(h.pk x hx).max⟩
 refine(o7 g s W R sb l ub eb w h (kk (by omega)) (by omega)).mono ?_;rintro e w1 ⟨A1,c1,lx,rfl,hv1,hS1,hA1,hp1,hB1⟩;rw[hl1]at hS1 ⊢;rw[h.lv]at hv1;refine⟨_,rfl,rfl,hB1,fun cf V hv hV=>?_⟩;have hlx:s.L.length=lx.length:=by rw[<-hv1,List.length_map]
 have hcn:fC w1 A1 s.L.length (wn lx) (xY lx) (vW lx) (xZ lx) (zL lx):=vN hS1 hlx (fun x hx=>⟨(hp1 x hx).1.le,(hp1 x hx).1.rowOf (fun j hj=>by unfold SV.bytes;rw[List.getElem?_map,List.getElem?_range hj];rfl)⟩) (fun x hx=>by
  have hm:x.v∈s.L:=by rw[<-hv1];exact List.mem_map.2 ⟨x,hx,rfl⟩
  rw[<-h.lv,List.mem_map]at hm;obtain⟨y,hy,hyx⟩:=hm;have h1:=h.rng y hy;have h2:=h.pk y hy;have h3:=h.ok.deliver;have h4:=h.ok.next;rw[hyx]at h1 h2
  exact⟨by omega,h2.max,h2.byte⟩)
 have hsv:gt (wn lx) (vW lx) (zL lx) s.L.length=s.L:=by rw[hlx,wo,hv1]
 have hwh:lL s.deliver s.next s.L.length (wn lx) (vW lx):=sV hW h.ok hfit rfl hsv;have hr:=js cf V hv A1 s.L.length c1 s.deliver s.next (wn lx) (xY lx) (vW lx) (xZ lx) (zL lx) h.ok.deliver.1 (by unfold maxLen;omega) (hcn.below hV) hwh;rw[hsv]at hr
 exact hr
end Go.Proofs.YtiiojpnckbglcaaGreat
namespace Go.Proofs.YtiiojpnckbglcaaGreat
open Go.RowKit
attribute [local go_sem ↓] Go.wp_at_zero Go.wp_at_succ
def yi (cf:aZ) (s':TS) (V:World) (e:Ending) (w1:World):Prop:=∃FA:Array Value,e=.returned (.agg FA)/\FA.size=4/\Below V.heap.size V w1/\∀U,Below w1.heap.size w1 U->Calls Tryz.prog 10 #[.agg cf.arr,.agg FA] U (qN s' U)
def yt (cf:aZ) (d nx:Int) (L:List SV) (V:World) (e:Ending) (w1:World):Prop:=∃SA:Array Value,e=.returned (.agg SA)/\SA.size=3/\Below V.heap.size V w1/\∀U,Below w1.heap.size w1 U->Calls Tryz.prog 59 #[.agg cf.arr,.agg SA] U (lS cf d nx L U)
theorem tY (g h:Nat) (cf cf2:aZ) (h1:cf.Valid) (h2:cf2.Valid) (hd:¬cf.d=cf2.d) (hb:cf.b=cf2.b) (s':TS) (d nx:Int) (L:List SV) (w:World)
  (HN:∀V,Below w.heap.size w V->Calls Tryz.prog 40 #[.agg (aG g h)] V fun e w'=>e=.returned (.bool false)/\Below V.heap.size V w')
  (H1:∀V,Below w.heap.size w V->Calls Tryz.prog 15 #[.pointer (some ⟨g,0,none⟩)] V (yi cf s' V))
  (H2:∀V,Below w.heap.size w V->Calls Tryz.prog 41 #[.pointer (some ⟨h,0,none⟩)] V (yt cf2 d nx L V)) :
  Calls Tryz.prog 11 #[.agg (aG g h),.agg cf.arr,.agg cf2.arr] w fun e w'=>∃g' h' X,e=.returned (.tuple #[.agg (aG g' h'),.int .i64 0])/\fF w.heap.size w' g' h' s' (gA cf2 X d nx L)/\Below w.heap.size w w':=by
 have HNO:=zh HN;have HFT:=zh (fun V=>nR cf cf2 h1 h2 hd hb V);have HE1:=zh H1;have HE2:=zh H2;have HRS:=zh (fun FA SA f s V H3 H4=>lg cf cf2 FA SA f s s' d nx L V H3 H4);have HSA:Hid ((Tryz.prog.info? 25).map (·.size)=some cf.arr.toList.length):=zh (by rw[Array.length_toList,cf.arr_size];exact aM);have HSB:Hid ((Tryz.prog.info? 25).map (·.size)=some cf2.arr.toList.length):=zh (by rw[Array.length_toList,cf2.arr_size];exact aM);have HUC:=zh Tryz.underlying25;unfold yi at HE1;unfold yt at HE2;obtain⟨CA,hCA⟩:=af cf.arr
 obtain⟨CB,hCB⟩:=af cf2.arr
 rw[<-hCA]at HFT HRS HSA HE1 ⊢;rw[<-hCB]at HFT HRS HSB HE2 ⊢;clear hCA hCB h1 h2 hd hb HN H1 H2;have HSS:=zh (show(Tryz.prog.info? 36).map (·.size)=some (aG g h).toList.length by kernel_rfl);have HUS:=zh Tryz.underlying36;obtain⟨SV2,hSV⟩:∃q,q=aG g h:=⟨_,rfl⟩
 have HSV:=zh hSV;rw[<-hSV]at HNO HSS ⊢;clear hSV;go_enter Tryz.func11,Tryz.ntmps11;go_upto_region 1 with (fail)
 obtain⟨kb,hkb⟩:=af w.heap.size
 have HKB:=zh hkb;refine ag (fun V=>ae V kb 36 SV2/\ae V (kb+1) 25 CA/\ae V (kb+1+1) 25 CB/\ae V (kb+1+1+1) 36 #[.pointer none,.pointer none]/\Below w.heap.size w V/\w.heap.size+4<=V.heap.size) ⟨by rw[hkb];exact(((az _ _ _ _ rfl).alloc _).alloc _).alloc _,by rw[hkb];exact((az _ _ _ _ (by simp)).alloc _).alloc _,by rw[hkb];exact(az _ _ _ _ (by simp)).alloc _,by rw[hkb];exact az _ _ _ _ (by simp),((((Below.refl _ w).alloc ao _).alloc (by simp) _).alloc (by simp;omega) _).alloc (by simp;omega) _,by simp⟩ ?_;rintro V ⟨b0,b1,b2,b3,b5,b6⟩;rw[<-hkb];have HB0:=zh b0;have HB1:=zh b1;have HB2:=zh b2;have HB3:=zh b3;have HV:=zh b5;have HVS:=zh b6;have R0:=zh (show V.rangeAt kb 0 SV2.toList from fun j y hy=>by rw[b0.cell,Nat.zero_add,<-hy,Array.getElem?_toList]);clear b0 b1 b2 b3 b5 b6 hkb;go_upto_region 3 with (first
  | (refine wpList_load_mid rfl 36 _ rfl kb 0 rfl SV2.toList _ R0.out HUS.out rfl HSS.out ?_)
  | (go_at_call 40;refine(HNO.out _ HV.out).mono ?_;rintro e w1 ⟨rfl,hB⟩;have B1:=zh hB;clear hB))
 have X1:=zh (HV.out.trans (B1.out.mono HV.out.size));have hc1:=HB1.out.below B1.out HB1.out.lt;have hc2:=HB2.out.below B1.out HB2.out.lt;have R1:=zh (show w1.rangeAt (kb+1) 0 CA.toList from fun j y hy=>by rw[hc1.cell,Nat.zero_add,<-hy,Array.getElem?_toList]);have R2:=zh (show w1.rangeAt (kb+1+1) 0 CB.toList from fun j y hy=>by rw[hc2.cell,Nat.zero_add,<-hy,Array.getElem?_toList]);clear hc1 hc2;go_upto_region 5 with (first
  | (refine wpList_load_mid rfl 25 _ rfl (kb+1) 0 rfl CA.toList _ R1.out HUC.out rfl HSA.out ?_)
  | (refine wpList_load_mid rfl 25 _ rfl (kb+1+1) 0 rfl CB.toList _ R2.out HUC.out rfl HSB.out ?_)
  | (go_at_call 33;refine(HFT.out _).mono ?_;rintro e w2 ⟨rfl,hB⟩;have B2:=zh hB;clear hB))
 have X2:=zh (X1.out.trans (B2.out.mono X1.out.size));have C0:=zh ((HB0.out.below B1.out HB0.out.lt).below B2.out (HB0.out.below B1.out HB0.out.lt).lt);have C1:=zh ((HB1.out.below B1.out HB1.out.lt).below B2.out (HB1.out.below B1.out HB1.out.lt).lt);have C2:=zh ((HB2.out.below B1.out HB2.out.lt).below B2.out (HB2.out.below B1.out HB2.out.lt).lt);have C3:=zh ((HB3.out.below B1.out HB3.out.lt).below B2.out (HB3.out.below B1.out HB3.out.lt).lt);rw[HSV.out]at C0;have HW1:=zh (show ∀W,aa (fun k=>k=kb+1+1+1) w2 W->W.rangeAt (kb+1) 0 CA.toList from fun W hW j y hy=>by rw[(hW.blk C1.out (by omega)).cell,Nat.zero_add,<-hy,Array.getElem?_toList]);have HW2:=zh (show ∀W,aa (fun k=>k=kb+1+1+1) w2 W->W.rangeAt (kb+1+1) 0 CB.toList from fun W hW j y hy=>by rw[(hW.blk C2.out (by omega)).cell,Nat.zero_add,<-hy,Array.getElem?_toList]);have HC0:=zh (show ∀W,aa (fun k=>k=kb+1+1+1) w2 W->W.cell? ⟨kb,0,none⟩=some (.pointer (some ⟨g,0,none⟩))from fun W hW=>(hW.blk C0.out (by omega)).cell 0);have HC1:=zh (show ∀W,aa (fun k=>k=kb+1+1+1) w2 W->W.cell? ⟨kb,1,none⟩=some (.pointer (some ⟨h,0,none⟩))from fun W hW=>(hW.blk C0.out (by omega)).cell 1);refine wp_region_held_drew (S:=fun w'=>aa (fun k=>k=kb+1+1+1) w2 w') (by kernel_rfl) (aa.of_below (Below.refl _ w2).drew) (fun hHeld=>?_);obtain⟨u0,hu0⟩:=af w2.drew
 have U0:=zh (show Below w2.heap.size w2 u0 by rw[hu0];exact(Below.refl _ w2).drew);rw[<-hu0];rw[<-hu0]at hHeld;clear hu0;refine' ed (i:=0) (x:=some 18) (v:=_) rfl (yieldsIf_load_mid (by rfl) _ _ rfl (kb+1) 0 rfl CA.toList _ (fun W hW=>HW1.out W hW) HUC.out rfl HSA.out) ?_;refine' ed (i:=1) (x:=some 19) (v:=_) rfl (yieldsIf_load_mid (by rfl) _ _ rfl (kb+1+1) 0 rfl CB.toList _ (fun W hW=>HW2.out W hW) HUC.out rfl HSB.out) ?_;refine bF (i:=2) (x:=some 20) (v:=.pointer (some ⟨kb,0,none⟩)) rfl ?_;refine ed (i:=3) (x:=some 21) (v:=.pointer (some ⟨g,0,none⟩)) rfl (.inl ⟨by rfl,fun W hW=>(by have:=HC0.out W hW;go_simp)⟩) ?_;refine bF (i:=5) (x:=some 23) (v:=.pointer (some ⟨kb,1,none⟩)) rfl ?_;refine ed (i:=6) (x:=some 24) (v:=.pointer (some ⟨h,0,none⟩)) rfl (.inl ⟨by rfl,fun W hW=>(by have:=HC1.out W hW;go_simp)⟩) ?_;refine bc (i:=4) (x:=some 22) rfl fun K hK=>?_;go_simp;refine(HE1.out _ (X2.out.trans (U0.out.mono X2.out.size))).mono ?_;rintro e u1 ⟨FA,rfl,hfs,hB,hFA⟩;dsimp only;have HFA:=zh hFA;have HB1':=zh hB;have U1:=zh (U0.out.trans (hB.mono U0.out.size));clear hB;refine hK.out _ _ (aa.of_below U1.out) (fun hHeld=>?_);clear hK K hFA
 try simp only[Act.put,qa,qb,qc]
 refine bc (i:=7) (x:=some 25) rfl fun K hK=>?_;go_simp;refine(HE2.out _ (X2.out.trans (U1.out.mono X2.out.size))).mono ?_;rintro e u2 ⟨SA,rfl,hss,hB,hSA⟩;dsimp only;have HSAA:=zh hSA;have HB2':=zh hB;have U2:=zh (U1.out.trans (hB.mono U1.out.size));clear hB;refine hK.out _ _ (aa.of_below U2.out) (fun hHeld=>?_);clear hK K hSA
 try simp only[Act.put,qa,qb,qc]
 refine bc (i:=8) (x:=some 26) rfl fun K hK=>?_;go_simp;refine(HRS.out FA SA hfs hss u2 (fun U hU=>HFA.out U (HB2'.out.trans (hU.mono HB2'.out.size))) (fun U hU=>HSAA.out U hU)).mono ?_;rintro e u3 ⟨g1,h1,X,rfl,hS,hB⟩;dsimp only;have HSR:=zh hS;have HB3':=zh hB;have U3:=zh (U2.out.trans (hB.mono U2.out.size));clear hB;unfold aG;refine hK.out _ _ (aa.of_below U3.out) (fun hHeld=>?_);clear hK K hS
 try simp only[Act.put,qa,qb,qc]
 refine ed (i:=9) (x:=some 27) (v:=.agg (aG g1 h1)) rfl (.inl ⟨by rfl,fun W hW=>(by unfold aG;go_simp)⟩) ?_;refine bF (i:=10) (x:=some 28) (v:=.int .i64 0) rfl ?_;refine bc (i:=11) (x:=none) rfl fun K hK=>?_;have D3:=zh (C3.out.below U3.out C3.out.lt);refine wp_store_mid _ _ _ rfl (kb+1+1+1) 0 (aG g1 h1) rfl rfl (sE D3.out 0 2 (by decide)) (cO g1 h1) (fJ g1 h1) ?_;have HWZ:=zh (bY (aG g1 h1).toList 0 u3 _ D3.out);have HKZ:=zh (gc (F:=fun k=>k=kb+1+1+1) rfl (aG g1 h1).toList 0 u3);obtain⟨u4,hu4⟩:∃v,v=u3.setCells (kb+1+1+1) 0 (aG g1 h1).toList:=⟨_,rfl⟩
 rw[<-hu4]at HWZ HKZ ⊢;clear hu4;refine hK.out _ _ ((aa.of_below U3.out).trans HKZ.out (fun _ _ h=>h)) (fun hHeld=>?_);clear hK K
 try simp only[Act.put,qa,qb,qc]
 refine dF (i:=12) (x:=some 7) (v:=.int .i64 0) rfl ?_;refine wpAnyH_done (by kernel_rfl) ?_ _;clear hHeld;have hs:=HVS.out;have hk:=HKB.out;have hs1:=B1.out.size;have hs2:=B2.out.size;have hs3:=U2.out.size;have hS2:fF w.heap.size u4 g1 h1 s' (gA cf2 X d nx L):=(HSR.out.keep HKZ.out (fun k hk2=>by omega)).mono (by omega);have hB4:Below w.heap.size w u4:=aa.below (X2.out.trans (U3.out.mono X2.out.size)) HKZ.out (fun k hk2=>by omega) (by have:=X2.out.size;have:=U3.out.size;omega);go_wp2;refine bodyPost_ret (v:=.tuple #[.agg (aG g1 h1),.int .i64 0]) (aO (g:=kb+1+1+1) (t:=36) (fr:=(0,0)) Tryz.results11 _ _ (aG g1 h1) _ rfl HWZ.out Tryz.underlying36 rfl (cO g1 h1) _ rfl) rfl ⟨g1,h1,X,rfl,hS2,hB4⟩
end Go.Proofs.YtiiojpnckbglcaaGreat

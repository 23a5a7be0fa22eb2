import Derived.Test.YtiiojpnckbglcaaGreatMTBs
import Derived.ProofKit
import Derived.OpenShut
import Derived.ChangeOld
import Derived.Deep.Fields
import Derived.Deep.SlicePairs
import Derived.Deep.Slices
set_option maxRecDepth 100000
set_option linter.unusedVariables false
set_option linter.unusedSimpArgs false
namespace Go.Proofs.YtiiojpnckbglcaaGreat
open Go.ChangeShapes Go.WideShapes Go.ChangeAt Go.RowKit
def pR:Option Value->Int
 | some (.int _ a)=>a
 | _=>0
section
variable {H:Type} {enc:TypeId×Value->H} {w:World} {base:Nat} {spare:Nat->Bool} {held:Bool}
theorem te {fuel:Nat} {L:List Value} {x:DataW H×List MemPlace} (h:DataW.trod enc Tryz.prog w base spare held fuel 23 L=some x) :
  ∃f:Nat->Int,(∀j,j < 16->L[j]? = some (.int .u8 (f j)))/\∀j,j < 16->0<=f j/\f j < 256:=by
 obtain⟨xs,m,_,_,_,hx,hel⟩:=DataW.trod_array Tryz.underlying23 h;have c5:Tryz.prog.cellsOf 5 = 1:=by kernel_rfl
 have key:∀j,j < 16->∃a,L[j]? = some (.int .u8 a)/\0<=a/\a < 256:=fun j hj=>by
  have h1:=hel j hj;rw[c5,Nat.mul_one,List.getElem?_eq_getElem (by omega)]at h1;obtain⟨a,e,_,hw⟩:=DataW.trod_int Tryz.underlying5 h1;have h2:=congrArg List.head? e;simp[List.head?_take]at h2;have hb:=bounds_u8 hw
  exact⟨a,h2,hb.1,by omega⟩
 refine⟨fun j=>pR L[j]?,fun j hj=>?_,fun j hj=>?_⟩
 ·obtain⟨a,e,_⟩:=key j hj;simp only[e,pR]
 ·obtain⟨a,e,hb⟩:=key j hj;simp only[e,pR]
  exact hb
theorem nU {r:Reach} {b0:Nat} {v:Value} {d:DataW H} {p:List MemPlace}
  (hv:Value.okWide Tryz.prog w r b0 25 v) (h:DataW.Trod enc Tryz.prog w base spare held 25 v d p):∃c:aZ,v=.agg c.arr/\c.Ok:=by
 obtain⟨cs,rfl,hsz⟩:=okWide_struct Tryz.underlying25 hv;have hc:Tryz.prog.cellsOf 25 = 39:=by kernel_rfl
 have h9:cs.size=39:=hsz.trans hc;obtain⟨fuel,hf⟩:=h;obtain⟨xs,n,_,_,_,hlen,hg⟩:=DataW.trod_struct Tryz.underlying25 hf;have c3:Tryz.prog.cellsOf 3 = 1:=by kernel_rfl
 have c22:Tryz.prog.cellsOf 22 = 1:=by kernel_rfl
 have c4:Tryz.prog.cellsOf 4 = 1:=by kernel_rfl
 have c16:Tryz.prog.cellsOf 23 = 16:=by kernel_rfl
 have hx9:xs.length=9:=hlen;have keyi:∀(i o:Nat) (ty:TypeId),Tryz.prog.underlying ty=some (.int .i64)->i < 9->DataW.trod enc Tryz.prog w base spare held n ty (List.take 1 (List.drop o (Value.agg cs).cells.toList))=xs[i]?->∃a,cs[o]? = some (Value.int .i64 a):=by
  intro i o ty hu hi h1;rw[List.getElem?_eq_getElem (by omega)]at h1;obtain⟨a,e,_,_⟩:=DataW.trod_int hu h1;refine⟨a,?_⟩;have h2:=congrArg List.head? e;simp[Value.cells,List.head?_take]at h2
  exact h2
 have keyb:∀(i o:Nat),i < 9->DataW.trod enc Tryz.prog w base spare held n 4 (List.take 1 (List.drop o (Value.agg cs).cells.toList))=xs[i]?->∃a,cs[o]? = some (Value.bool a):=by
  intro i o hi h1;rw[List.getElem?_eq_getElem (by omega)]at h1;obtain⟨a,e,_⟩:=DataW.trod_bool Tryz.underlying4 h1;refine⟨a,?_⟩;have h2:=congrArg List.head? e;simp[Value.cells,List.head?_take]at h2
  exact h2
 have keya:∀(i o:Nat),i < 9->DataW.trod enc Tryz.prog w base spare held n 23 (List.take 16 (List.drop o (Value.agg cs).cells.toList))=xs[i]?->∃f:Nat->Int,(∀j,j < 16->cs[o+j]? = some (.int .u8 (f j)))/\∀j,j < 16->0<=f j/\f j < 256:=by
  intro i o hi h1;rw[List.getElem?_eq_getElem (by omega)]at h1;obtain⟨f,e,hb⟩:=te h1;refine⟨f,fun j hj=>?_,hb⟩;have:=e j hj;rw[List.getElem?_take,if_pos hj,List.getElem?_drop]at this;simpa[Value.cells]using this
 obtain⟨a0,e0⟩:=keyi 0 0 3 Tryz.underlying3 (by decide) (by have h1:DataW.trod enc Tryz.prog w base spare held n 3 (List.take (Tryz.prog.cellsOf 3) (List.drop 0 (Value.agg cs).cells.toList))=xs[0]?:=hg 0 _ rfl;rwa [c3]at h1);obtain⟨a1,e1⟩:=keyi 1 1 22 Tryz.underlying22 (by decide) (by have h1:DataW.trod enc Tryz.prog w base spare held n 22 (List.take (Tryz.prog.cellsOf 22) (List.drop 1 (Value.agg cs).cells.toList))=xs[1]?:=hg 1 _ rfl;rwa [c22]at h1);obtain⟨a2,e2,r2⟩:=keya 2 2 (by decide) (by have h1:DataW.trod enc Tryz.prog w base spare held n 23 (List.take (Tryz.prog.cellsOf 23) (List.drop 2 (Value.agg cs).cells.toList))=xs[2]?:=hg 2 _ rfl;rwa [c16]at h1);obtain⟨a3,e3,r3⟩:=keya 3 18 (by decide) (by have h1:DataW.trod enc Tryz.prog w base spare held n 23 (List.take (Tryz.prog.cellsOf 23) (List.drop 18 (Value.agg cs).cells.toList))=xs[3]?:=hg 3 _ rfl;rwa [c16]at h1);obtain⟨a4,e4⟩:=keyb 4 34 (by decide) (by have h1:DataW.trod enc Tryz.prog w base spare held n 4 (List.take (Tryz.prog.cellsOf 4) (List.drop 34 (Value.agg cs).cells.toList))=xs[4]?:=hg 4 _ rfl;rwa [c4]at h1);obtain⟨a5,e5⟩:=keyb 5 35 (by decide) (by have h1:DataW.trod enc Tryz.prog w base spare held n 4 (List.take (Tryz.prog.cellsOf 4) (List.drop 35 (Value.agg cs).cells.toList))=xs[5]?:=hg 5 _ rfl;rwa [c4]at h1);obtain⟨a6,e6⟩:=keyb 6 36 (by decide) (by have h1:DataW.trod enc Tryz.prog w base spare held n 4 (List.take (Tryz.prog.cellsOf 4) (List.drop 36 (Value.agg cs).cells.toList))=xs[6]?:=hg 6 _ rfl;rwa [c4]at h1);obtain⟨a7,e7⟩:=keyi 7 37 3 Tryz.underlying3 (by decide) (by have h1:DataW.trod enc Tryz.prog w base spare held n 3 (List.take (Tryz.prog.cellsOf 3) (List.drop 37 (Value.agg cs).cells.toList))=xs[7]?:=hg 7 _ rfl;rwa [c3]at h1);obtain⟨a8,e8⟩:=keyi 8 38 3 Tryz.underlying3 (by decide) (by have h1:DataW.trod enc Tryz.prog w base spare held n 3 (List.take (Tryz.prog.cellsOf 3) (List.drop 38 (Value.agg cs).cells.toList))=xs[8]?:=hg 8 _ rfl;rwa [c3]at h1);obtain⟨c,hcd⟩:∃c:aZ,c=⟨a0,a1,a2,a3,a4,a5,a6,a7,a8⟩:=⟨_,rfl⟩
 refine⟨c,?_,by rw[hcd];exact⟨r2,r3⟩⟩;have:cs=c.arr:=by
  apply Array.ext_getElem?;intro i;by_cases hi:i < 39
  ·rw[c.arr_at hi,hcd];unfold aZ.cell;rcases (by omega:i=0\/i=1\/(2<=i/\i < 18)\/(18<=i/\i < 34)\/i=34\/i=35\/i=36\/i=37\/i=38)with rfl | rfl | h | h | rfl | rfl | rfl | rfl | rfl
   ·exact e0
   ·exact e1
   ·rw[if_neg (by omega),if_neg (by omega),if_pos (by omega)];have:=e2 (i-2) (by omega)
    rwa [show 2+(i-2)=i by omega]at this
   ·rw[if_neg (by omega),if_neg (by omega),if_neg (by omega),if_pos (by omega)];have:=e3 (i-18) (by omega)
    rwa [show 18+(i-18)=i by omega]at this
   ·exact e4
   ·exact e5
   ·exact e6
   ·exact e7
   ·exact e8
  ·rw[Array.getElem?_eq_none (by omega),Array.getElem?_eq_none (by rw[c.arr_size];omega)]
 rw[this]
end
end Go.Proofs.YtiiojpnckbglcaaGreat
namespace Go.Proofs.YtiiojpnckbglcaaGreat
open Go.RowKit Go.ChangeShapes Go.WideShapes
theorem fW {H:Type} {enc:TypeId×Value->H} {w:World} {base:Nat} {spare:Nat->Bool} {held:Bool} {fuel:Nat} {v:Value} {x:DataW H×List MemPlace} (h:DataW.trod enc Tryz.prog w base spare held fuel 44 [v] = some x) (hsp:∀b,spare b=true) :
  ∃a len cap zs,v=.slice a len cap/\lV .u8 w a len cap zs:=by
 rcases open_ints Tryz.underlying44 Tryz.underlying5 (by kernel_rfl) h with ⟨hcs,_⟩ | ⟨x,l,c,zs,hcs,_,hl,hm,hz,_,hcell,hwz⟩
 ·simp at hcs;subst hcs
  exact⟨none,0,0,[],rfl,.inl ⟨rfl,rfl,rfl,rfl⟩⟩
 ·simp at hcs;subst hcs;rw[if_pos (hsp _)]at hz
  exact⟨some x,l,c,zs,rfl,.inr ⟨x,rfl,hl,hm,hz,hcell,hwz⟩⟩
theorem rI {H:Type} {enc:TypeId×Value->H} {w:World} {base:Nat} {spare:Nat->Bool} {held:Bool} {fuel:Nat} {a:Option Addr} {len cap:Nat} {x:DataW H×List MemPlace}
  (h:DataW.trod enc Tryz.prog w base spare held fuel 27 [.slice a len cap] = some x) (hsp:∀b,spare b=true) :
  len<=maxLen/\len<=cap/\∃ct PA pn pc z,fC w a len ct PA pn pc z:=by
 rcases Go.Deep.open_slice_pairs Tryz.underlying27 Tryz.underlying68 (by kernel_rfl) rfl rfl (by kernel_rfl) (by kernel_rfl) h with ⟨hcs,_⟩ | ⟨ad,l,c,m,n,V0,V1,D0,D1,P0,P1,hcs,_,hl,hm,hmm,_,hf⟩
 ·simp at hcs;obtain⟨rfl,rfl,rfl⟩:=hcs
  exact⟨by unfold maxLen;omega,Nat.le_refl _,fun _=>0,fun _=>none,fun _=>0,fun _=>0,fun _ _=>0,⟨fun h=>absurd rfl h,fun k hk=>by omega,fun k hk=>by omega,fun k hk=>by omega,fun k hk=>by omega,fun k hk=>by omega⟩⟩
 ·simp at hcs;obtain⟨rfl,rfl,rfl⟩:=hcs;rw[if_pos (hsp _)]at hmm;subst hmm;have h0:∀i,∃q:Int,i < len->V0 i=.int .u32 q/\(Lit.int .u32 q).wf=true:=fun i=>by
   by_cases hi:i < len
   ·obtain⟨q,hq,_,hw⟩:=DataW.trod_int Tryz.underlying26 (hf i (by omega)).2.2.1
    exact⟨q,fun _=>⟨by simpa using hq,hw⟩⟩
   ·exact⟨0,fun h=>absurd h hi⟩
  have h1:∀i,∃q:Option Addr×Nat×Nat×List Int,i < len->V1 i=.slice q.1 q.2.1 q.2.2.1/\lV .u8 w q.1 q.2.1 q.2.2.1 q.2.2.2:=fun i=>by
   by_cases hi:i < len
   ·obtain⟨a,l,c,zs,hv,hr⟩:=fW (hf i (by omega)).2.2.2 hsp
    exact⟨(a,l,c,zs),fun _=>⟨hv,hr⟩⟩
   ·exact⟨(none,0,0,[]),fun h=>absurd h hi⟩
  obtain⟨q0,hq0⟩:=Classical.axiomOfChoice h0;obtain⟨q1,hq1⟩:=Classical.axiomOfChoice h1;refine⟨by omega,hl,q0,fun k=>(q1 k).1,fun k=>(q1 k).2.1,fun k=>(q1 k).2.2.1,fun k j=>(q1 k).2.2.2.getD j 0,⟨fun hn=>?_,fun k hk=>by
   have h2:=(by simpa[Lit.wf]using (hq0 k hk).2:IntKind.u32.min<=q0 k/\q0 k<=IntKind.u32.max)
   rw[show IntKind.u32.min=0 from rfl,show IntKind.u32.max=4294967295 from rfl]at h2;omega,fun k hk=>by
   rcases (hq1 k hk).2 with ⟨_,h0,_⟩ | ⟨_,_,hl2,hm2,_⟩
   ·show(q1 k).2.1<=_;omega
   ·show(q1 k).2.1<=_;unfold maxLen at hm2;omega,fun k hk=>(im (hq1 k hk).2).1,fun k hk=>(im (hq1 k hk).2).2,fun k hk=>lk (hq1 k hk).2⟩⟩
  ·obtain⟨b,off,spot⟩:=ad;have c0:=(hf 0 (by omega)).1;have hspot:spot=none:=by simpa[Addr.add]using World.cell?_spot c0
   subst hspot;have hadd:∀j,(⟨b,off,none⟩:Addr).add j=⟨b,off+j,none⟩:=fun j=>by unfold Addr.add;split<;>simp_all
   refine⟨b,off,rfl,?_,fun k hk=>?_⟩
   ·rw[hadd]at c0
    exact World.block_lt_of_cell? w _ c0
   ·obtain⟨e0,e1,_,_⟩:=hf k (by omega);rw[hadd]at e0 e1;rw[(hq0 k hk).1]at e0;rw[(hq1 k hk).1]at e1
    exact⟨e0,e1⟩
theorem oL {H:Type} {enc:TypeId×Value->H} {w:World} {base:Nat} {spare:Nat->Bool} {held:Bool} {fuel:Nat} {a:Option Addr} {len cap:Nat} {x:DataW H×List MemPlace}
  (h:DataW.trod enc Tryz.prog w base spare held fuel 28 [.slice a len cap] = some x) (hsp:∀b,spare b=true) :
  len<=maxLen/\len<=cap/\∃PA pn pc z,dW w a len PA pn pc z:=by
 rcases Go.Deep.open_slice Tryz.underlying28 h with ⟨hcs,_⟩ | ⟨ad,l,c,m,n,D,Pl,hcs,_,hl,hm,hmm,_,hf⟩
 ·simp at hcs;obtain⟨rfl,rfl,rfl⟩:=hcs
  exact⟨by unfold maxLen;omega,Nat.le_refl _,fun _=>none,fun _=>0,fun _=>0,fun _ _=>0,⟨fun h=>absurd rfl h,fun k hk=>by omega,fun k hk=>by omega,fun k hk=>by omega,fun k hk=>by omega⟩⟩
 ·simp at hcs;obtain⟨rfl,rfl,rfl⟩:=hcs;rw[if_pos (hsp _)]at hmm;subst hmm;have c1:Tryz.prog.cellsOf 44 = 1:=by kernel_rfl
  have h1:∀i,∃q:Option Addr×Nat×Nat×List Int,i < len->w.cell? (ad.add i)=some (.slice q.1 q.2.1 q.2.2.1)/\lV .u8 w q.1 q.2.1 q.2.2.1 q.2.2.2:=fun i=>by
   by_cases hi:i < len
   ·obtain⟨cs',g1,g2⟩:=hf i (by omega);rw[c1,Nat.mul_one]at g1;obtain⟨_,hlen,hcell⟩:=World.cells?_some g1
    match cs',hlen with
    | [v],_=>
     obtain⟨a,l,c,zs,hv,hr⟩:=fW (v:=v) g2 hsp;have hc0:=hcell 0 (by omega);simp at hc0
     exact⟨(a,l,c,zs),fun _=>⟨by rw[<-hv];simpa[Addr.add]using hc0,hr⟩⟩
   ·exact⟨(none,0,0,[]),fun h=>absurd h hi⟩
  obtain⟨q1,hq1⟩:=Classical.axiomOfChoice h1;refine⟨by omega,hl,fun k=>(q1 k).1,fun k=>(q1 k).2.1,fun k=>(q1 k).2.2.1,fun k j=>(q1 k).2.2.2.getD j 0,⟨fun hn=>?_,fun k hk=>ba (rW (hq1 k hk).2) (by unfold maxLen;decide),fun k hk=>(im (hq1 k hk).2).1,fun k hk=>(im (hq1 k hk).2).2,fun k hk=>lk (hq1 k hk).2⟩⟩;obtain⟨b,off,spot⟩:=ad;have c0:=(hq1 0 (by omega)).1;have hspot:spot=none:=by simpa[Addr.add]using World.cell?_spot c0
  subst hspot;have hadd:∀j,(⟨b,off,none⟩:Addr).add j=⟨b,off+j,none⟩:=fun j=>by unfold Addr.add;split<;>simp_all
  refine⟨b,off,rfl,?_,fun k hk=>?_⟩
  ·rw[hadd]at c0
   exact World.block_lt_of_cell? w _ c0
  ·have:=(hq1 k hk).1
   rwa [hadd]at this
theorem mP {H:Type} {enc:TypeId×Value->H} {w:World} {base:Nat} {spare:Nat->Bool} {held:Bool} {r:Reach} {b0:Nat} {v:Value} {d:DataW H} {p:List MemPlace}
  (hv:Value.okWide Tryz.prog w r b0 30 v) (h:DataW.Trod enc Tryz.prog w base spare held 30 v d p) (hsp:∀b,spare b=true) :
  ∃(x:Int) (us:Bool) (A A2:Option Addr) (m c mq c2:Nat) (ct:Nat->Int) (PA:Nat->Option Addr) (pn pc:Nat->Nat) (z:Nat->Nat->Int) (QA:Nat->Option Addr) (qn qc:Nat->Nat) (y:Nat->Nat->Int),v=.agg #[.int .u32 x,.bool us,.slice A m c,.slice A2 mq c2]/\(0<=x/\x < 4294967296)/\m<=maxLen/\mq<=maxLen/\fC w A m ct PA pn pc z/\dW w A2 mq QA qn qc y:=by
 obtain⟨cs,rfl,hsz⟩:=okWide_struct Tryz.underlying30 hv;have hc:Tryz.prog.cellsOf 30 = 4:=by kernel_rfl
 have h3:cs.size=4:=hsz.trans hc;obtain⟨fuel,hf⟩:=h;obtain⟨xs,n,_,_,_,hlen,hg⟩:=DataW.trod_struct Tryz.underlying30 hf;have hx3:xs.length=4:=hlen;have c1:Tryz.prog.cellsOf 26 = 1:=by kernel_rfl
 have c0:Tryz.prog.cellsOf 4 = 1:=by kernel_rfl
 have c2:Tryz.prog.cellsOf 27 = 1:=by kernel_rfl
 have c3:Tryz.prog.cellsOf 28 = 1:=by kernel_rfl
 obtain⟨l⟩:=cs
 match l,h3 with
 | [a,b,e,f],_=>
  have g0:DataW.trod enc Tryz.prog w base spare held n 26 (List.take (Tryz.prog.cellsOf 26) (List.drop 0 [a,b,e,f]))=xs[0]?:=hg 0 _ rfl;have g1:DataW.trod enc Tryz.prog w base spare held n 4 (List.take (Tryz.prog.cellsOf 4) (List.drop 1 [a,b,e,f]))=xs[1]?:=hg 1 _ rfl;have g2:DataW.trod enc Tryz.prog w base spare held n 27 (List.take (Tryz.prog.cellsOf 27) (List.drop 2 [a,b,e,f]))=xs[2]?:=hg 2 _ rfl;have g3:DataW.trod enc Tryz.prog w base spare held n 28 (List.take (Tryz.prog.cellsOf 28) (List.drop 3 [a,b,e,f]))=xs[3]?:=hg 3 _ rfl;rw[c1,List.getElem?_eq_getElem (by omega)]at g0;rw[c0,List.getElem?_eq_getElem (by omega)]at g1;rw[c2,List.getElem?_eq_getElem (by omega)]at g2;rw[c3,List.getElem?_eq_getElem (by omega)]at g3;obtain⟨x,e0,_,w0⟩:=DataW.trod_int Tryz.underlying26 g0;obtain⟨us,e1,_⟩:=DataW.trod_bool Tryz.underlying4 g1;simp at e0 e1 g2 g3;subst e0 e1;have u0:=(by simpa[Lit.wf]using w0:IntKind.u32.min<=x/\x<=IntKind.u32.max)
  rw[show IntKind.u32.min=0 from rfl,show IntKind.u32.max=4294967295 from rfl]at u0;obtain⟨A,m,c,rfl⟩:∃A m c,e=.slice A m c:=by
   rcases Go.Deep.open_slice_pairs Tryz.underlying27 Tryz.underlying68 (by kernel_rfl) rfl rfl (by kernel_rfl) (by kernel_rfl) g2 with ⟨hcs,_⟩ | ⟨ad,l,c,m,n,V0,V1,D0,D1,P0,P1,hcs,_⟩
   ·simp at hcs;exact⟨_,_,_,hcs⟩
   ·simp at hcs;exact⟨_,_,_,hcs⟩
  obtain⟨A2,mq,c2',rfl⟩:∃A m c,f=.slice A m c:=by
   rcases Go.Deep.open_slice Tryz.underlying28 g3 with ⟨hcs,_⟩ | ⟨ad,l,c,m,n,D,Pl,hcs,_⟩
   ·simp at hcs;exact⟨_,_,_,hcs⟩
   ·simp at hcs;exact⟨_,_,_,hcs⟩
  obtain⟨hm,_,ct,PA,pn,pc,z,hC⟩:=rI g2 hsp;obtain⟨hmq,_,QA,qn,qc,y,hQ⟩:=oL g3 hsp
  exact⟨x,us,A,A2,m,c,mq,c2',ct,PA,pn,pc,z,QA,qn,qc,y,rfl,⟨u0.1,Int.lt_of_le_of_lt u0.2 (by decide)⟩,hm,hmq,hC,hQ⟩
end Go.Proofs.YtiiojpnckbglcaaGreat

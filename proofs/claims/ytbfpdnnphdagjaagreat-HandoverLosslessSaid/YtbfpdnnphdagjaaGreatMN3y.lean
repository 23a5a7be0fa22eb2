import Derived.Test.YtbfpdnnphdagjaaGreatMSDy
import Derived.Test.YtbfpdnnphdagjaaGreatMZMy
import Derived.Test.YtbfpdnnphdagjaaGreatMZOy
import Derived.Test.YtbfpdnnphdagjaaGreatMCFy
import Derived.Test.YtbfpdnnphdagjaaGreatMN6y
set_option linter.unusedVariables false
set_option linter.unusedSimpArgs false
namespace Go.Proofs.YtbfpdnnphdagjaaGreat
open Go.RowKit Go.ChangeShapes Go.WideShapes Go.ChangeAt
attribute [local go_sem ↓] Go.wp_at_zero Go.wp_at_succ
structure Rd where
 up:Int
 down:Int
 A:Option Addr
 n:Nat
 c:Nat
 z:Nat->Int
 B:Option Addr
 m:Nat
 d:Nat
 y:Nat->Int
 mv:Bool
def Rd.cell (s:Rd) (j:Nat):Value:=if j=0 then .int .i64 s.up else if j=1 then .int .i64 s.down else if j=2 then .slice s.A s.n s.c else if j=3 then .slice s.B s.m s.d else .bool s.mv
def Rd.arr (s:Rd):Array Value:=#[.int .i64 s.up,.int .i64 s.down,.slice s.A s.n s.c,.slice s.B s.m s.d,.bool s.mv]
theorem Rd.arr_at (s:Rd) {j:Nat} (hj:j < 5):s.arr[j]? = some (s.cell j):=by
 rcases (by omega:j=0\/j=1\/j=2\/j=3\/j=4)with rfl | rfl | rfl | rfl | rfl<;>rfl
def Rd.zero:Rd:=⟨0,0,none,0,0,fun _=>0,none,0,0,fun _=>0,false⟩
structure n6 (w:World) (s:Rd):Prop where
 up:-9223372036854775808<=s.up/\s.up<=9223372036854775807
 down:-9223372036854775808<=s.down/\s.down<=9223372036854775807
 mx:s.n<=maxLen
 byte:∀j,j < s.n->0<=s.z j/\s.z j < 256
 row:aD w w.heap.size s.A s.n (fun j=>.int .u8 (s.z j))
 mx2:s.m<=maxLen
 byte2:∀j,j < s.m->0<=s.y j/\s.y j < 256
 row2:aD w w.heap.size s.B s.m (fun j=>.int .u8 (s.y j))
theorem za (w:World):n6 w Rd.zero:=⟨⟨by decide,by decide⟩,⟨by decide,by decide⟩,Nat.zero_le _,fun j h=>absurd (show j < 0 from h) (Nat.not_lt_zero j),fun h=>absurd (show 0 < 0 from h) (Nat.lt_irrefl 0),Nat.zero_le _,fun j h=>absurd (show j < 0 from h) (Nat.not_lt_zero j),fun h=>absurd (show 0 < 0 from h) (Nat.lt_irrefl 0)⟩
theorem n6.below {w w':World} {s:Rd} (h:n6 w s) (hb:Below w.heap.size w w'):n6 w' s:=⟨h.up,h.down,h.mx,h.byte,h.row.next hb,h.mx2,h.byte2,h.row2.next hb⟩
structure ib (w:World) (A:Option Addr) (m:Nat) (S:Nat->Rd):Prop where
 at_:m ≠ 0->∃lb lo,A=some ⟨lb,lo,none⟩/\lb < w.heap.size/\∀k,k < m->∀j,j < 5->w.cell? ⟨lb,lo+k*5+j,none⟩=some ((S k).cell j)
 ok:∀k,k < m->n6 w (S k)
theorem ib.below {w w':World} {A:Option Addr} {m:Nat} {S:Nat->Rd} (h:ib w A m S) (hb:Below w.heap.size w w'):ib w' A m S:=
 ⟨fun hm=>by
  obtain⟨lb,lo,e,hlt,hc⟩:=h.at_ hm
  exact⟨lb,lo,e,bp hlt hb.size,fun k hk j hj=>(hb.cell (p:=⟨lb,lo+k*5+j,none⟩) hlt).trans (hc k hk j hj)⟩,fun k hk=>(h.ok k hk).below hb⟩
section
variable {H:Type} {enc:TypeId×Value->H} {w:World} {base:Nat} {spare:Nat->Bool} {held:Bool}
theorem rq {fuel:Nat} {cs:List Value} {x:DataW H×List MemPlace} (h:DataW.trod enc Tryz.prog w base spare held fuel 53 cs=some x) (hsp:∀b,spare b=true):∃s:Rd,(∀j,j < 5->cs[j]? = some (s.cell j))/\n6 w s:=by
 obtain⟨xs,n,_,_,hlc,hlen,hg⟩:=DataW.trod_struct Tryz.underlying53 h;have c3:Tryz.prog.cellsOf 3 = 1:=by kernel_rfl
 have c27:Tryz.prog.cellsOf 41 = 1:=by kernel_rfl
 have cb:Tryz.prog.cellsOf 4 = 1:=by kernel_rfl
 have hc5:Tryz.prog.cellsOf 53 = 5:=by kernel_rfl
 rw[hc5]at hlc;have hx6:xs.length=5:=hlen;have keyi:∀(i o:Nat) (k:IntKind) (ty:TypeId),Tryz.prog.underlying ty=some (.int k)->i < 5->DataW.trod enc Tryz.prog w base spare held n ty ((cs.drop o).take 1)=xs[i]?->∃a,cs[o]? = some (Value.int k a)/\(Lit.int k a).wf=true:=by
  intro i o k ty hu hi h1;rw[List.getElem?_eq_getElem (by omega)]at h1;obtain⟨a,e,_,hw⟩:=DataW.trod_int hu h1;refine⟨a,?_,hw⟩;have h2:=congrArg List.head? e;simp[List.head?_take]at h2
  exact h2
 have g0:DataW.trod enc Tryz.prog w base spare held n 3 ((cs.drop 0).take (Tryz.prog.cellsOf 3))=xs[0]?:=hg 0 _ rfl;have g1:DataW.trod enc Tryz.prog w base spare held n 3 ((cs.drop 1).take (Tryz.prog.cellsOf 3))=xs[1]?:=hg 1 _ rfl;have g2:DataW.trod enc Tryz.prog w base spare held n 41 ((cs.drop 2).take (Tryz.prog.cellsOf 41))=xs[2]?:=hg 2 _ rfl;have g3:DataW.trod enc Tryz.prog w base spare held n 41 ((cs.drop 3).take (Tryz.prog.cellsOf 41))=xs[3]?:=hg 3 _ rfl;have g4:DataW.trod enc Tryz.prog w base spare held n 4 ((cs.drop 4).take (Tryz.prog.cellsOf 4))=xs[4]?:=hg 4 _ rfl;rw[c3]at g0 g1;rw[c27]at g2 g3;rw[cb]at g4;obtain⟨a0,e0,w0⟩:=keyi 0 0 .i64 _ Tryz.underlying3 (by decide) g0;obtain⟨a1,e1,w1⟩:=keyi 1 1 .i64 _ Tryz.underlying3 (by decide) g1;obtain⟨a4,e4⟩:∃b,cs[4]? = some (Value.bool b):=by
  rw[List.getElem?_eq_getElem (by omega)]at g4;obtain⟨a,e,_⟩:=DataW.trod_bool Tryz.underlying4 g4;refine⟨a,?_⟩;have h2:=congrArg List.head? e;simp[List.head?_take]at h2
  exact h2
 have one:∀o,o < 5->∃v,cs[o]? = some v/\(cs.drop o).take 1=[v]:=fun o ho=>by
  refine⟨cs[o],List.getElem?_eq_getElem (by omega),?_⟩;rw[List.drop_eq_getElem_cons (by omega),List.take_succ_cons,List.take_zero]
 obtain⟨v2,e2,h2⟩:=one 2 (by decide);obtain⟨v3,e3,h3⟩:=one 3 (by decide);rw[h2,List.getElem?_eq_getElem (by omega)]at g2;rw[h3,List.getElem?_eq_getElem (by omega)]at g3;obtain⟨A,len,cap,zs,rfl,hr⟩:=iy g2 hsp;obtain⟨B,len2,cap2,ys,rfl,hr2⟩:=iy g3 hsp;have b0:=bounds_i64 w0;have b1:=bounds_i64 w1;have hu:=pU hr;have hu2:=pU hr2;have hb0:-9223372036854775808<=a0/\a0<=9223372036854775807:=by omega
 have hb1:-9223372036854775808<=a1/\a1<=9223372036854775807:=by omega
 have hmx:len<=maxLen:=by rcases hr with ⟨_,h,_⟩ | ⟨_,_,h1,h2,_⟩<;>omega
 have hmx2:len2<=maxLen:=by rcases hr2 with ⟨_,h,_⟩ | ⟨_,_,h1,h2,_⟩<;>omega
 refine⟨⟨a0,a1,A,len,cap,fun j=>zs.getD j 0,B,len2,cap2,fun j=>ys.getD j 0,a4⟩,fun j hj=>?_,⟨hb0,hb1,hmx,hu.2,mD hr,hmx2,hu2.2,mD hr2⟩⟩;unfold Rd.cell;rcases (by omega:j=0\/j=1\/j=2\/j=3\/j=4)with rfl | rfl | rfl | rfl | rfl
 ·exact e0
 ·exact e1
 ·exact e2
 ·exact e3
 ·exact e4
theorem qg {fuel:Nat} {a:Option Addr} {len cap:Nat} {x:DataW H×List MemPlace}
  (h:DataW.trod enc Tryz.prog w base spare held fuel 51 [.slice a len cap] = some x) (hsp:∀b,spare b=true) :
  len<=maxLen/\len<=cap/\∃S,ib w a len S:=by
 rcases Go.Deep.open_slice Tryz.underlying51 h with ⟨hcs,_⟩ | ⟨ad,l,c,m,n,D,Pl,hcs,_,hl,hm,hmm,_,hf⟩
 ·simp at hcs;obtain⟨rfl,rfl,rfl⟩:=hcs
  exact⟨by unfold maxLen;omega,Nat.le_refl _,fun _=>Rd.zero,⟨fun h=>absurd rfl h,fun k hk=>by omega⟩⟩
 ·simp at hcs;obtain⟨rfl,rfl,rfl⟩:=hcs;rw[if_pos (hsp _)]at hmm;subst hmm;have hc5:Tryz.prog.cellsOf 53 = 5:=by kernel_rfl
  rw[hc5]at hf;have h0:∀i,∃s:Rd,i < len->(∀j,j < 5->w.cell? ((ad.add (i*5)).add j)=some (s.cell j))/\n6 w s:=fun i=>by
   by_cases hi:i < len
   ·obtain⟨cs',h1,h2⟩:=hf i (by omega);obtain⟨s,hs,hok⟩:=rq h2 hsp;refine⟨s,fun _=>⟨fun j hj=>?_,hok⟩⟩;obtain⟨_,hlen,hcell⟩:=World.cells?_some h1;rw[hcell j hj,hs j hj]
   ·exact⟨Rd.zero,fun h=>absurd h hi⟩
  obtain⟨S,hS⟩:=Classical.axiomOfChoice h0;refine⟨by omega,hl,S,⟨fun hn=>?_,fun k hk=>(hS k hk).2⟩⟩;obtain⟨b,off,spot⟩:=ad;have c0:=(hS 0 (by omega)).1 0 (by decide);have hspot:spot=none:=by simpa[Addr.add]using World.cell?_spot c0
  subst hspot;have hadd:∀o j,(⟨b,o,none⟩:Addr).add j=⟨b,o+j,none⟩:=fun o j=>by unfold Addr.add;split<;>simp_all
  refine⟨b,off,rfl,?_,fun k hk j hj=>?_⟩
  ·rw[hadd,hadd]at c0
   exact World.block_lt_of_cell? w _ c0
  ·have:=(hS k hk).1 j hj;rw[hadd,hadd]at this
   exact this
end
end Go.Proofs.YtbfpdnnphdagjaaGreat
namespace Go.Proofs.YtbfpdnnphdagjaaGreat
open Go.RowKit
section
variable {B g5 g:Nat} {CA:Array Value} {W4:Nat->Prop} {mS mU eb:Nat} {w V V':World} {vo vw:List SV} {A9 A7:Option Addr} {c9 c7:Nat} {s s':RS} {l l':List SE} {R R':Nat->Prop}
theorem LL.same {A A':Option Addr} {c c':Nat} {vs vs':List SV} {B B':Nat} {R R':Nat->Prop} (h:LL V B A c vs R) (h':LL V B' A' c' vs' R') (hl:vs.length=vs'.length) (he:∀(k:Nat) (v v':SV),vs[k]? = some v->vs'[k]? = some v'->v.n=v'.n/\∀j,j < v.n->v.z j=v'.z j):mp V A A' vs.length:=fun k hk=>by
 have e1:vs[k]? = some vs[k]:=List.getElem?_eq_getElem hk;have e2:vs'[k]? = some (vs'[k]'(by omega)):=List.getElem?_eq_getElem (by omega);obtain⟨b,o,x,hA,hb,hc,hp⟩:=h.at_ e1;obtain⟨b',o',x',hA',hb',hc',hp'⟩:=h'.at_ e2;obtain⟨hn,hz⟩:=he k _ _ e1 e2
 exact⟨(vs[k]).n,(vs[k]).z,(vs'[k]'(by omega)).z,⟨b,o,x.1,x.2,hA,hb,hc,hp.row⟩,⟨b',o',x'.1,x'.2,hA',hb',by rw[hn];exact hc',by rw[hn];exact hp'.row⟩,hz⟩
end
section
variable {cf:ax} {ms:Nat->Bool} {n i q:Nat} {B g5 g:Nat} {CA:Array Value} {W4:Nat->Prop} {mS mU eb:Nat} {w V V':World} {vo vw:List SV} {A9 A7:Option Addr} {c9 c7:Nat} {s s':RS} {l l':List SE} {R R':Nat->Prop}
end
def zO (x:cR):Prop:=∀j,j < x.N->x.S j=true\/x.T j=true
section
variable {pn:Nat->Nat} {z:Nat->Nat->Int} {x x' x2:cR} {K M:Nat}
theorem zO.submit (h:zO x) (s:TS):zO { x with q:=x.q+1,ts:=s }:=fun j hj=>by
 rcases h j hj with h1 | h1
 ·exact .inl h1
 ·refine .inr ?_;unfold cR.T r5 at h1 ⊢;show((decide (j < x.N) && x.Pd j && x.Rp j) || (decide (x.N<=j) && decide (j < x.N+(x.q+1))))=true;have hj':j < x.N:=hj;have h2:¬x.N<=j:=by omega
  simp[hj',h2]at h1 ⊢
  exact h1
theorem zO.all (hc:zO x) (hs:mF x x2 0) (hd:aG pn z K x2 M) (hN:x.N+x.q<=1000):x2.vs.length=x.N+x.q:=by
 rw[<-hs.N];refine hd.all hs.q (by rw[hs.N];omega) (fun k hk=>?_);rw[hs.N]at hk;by_cases hkN:k < x.N
 ·rcases hc k hkN with h1 | h1
  ·exact hs.mono k h1
  ·exact hs.all rfl k h1
 ·refine hs.all rfl k ?_;unfold cR.T r5;have h1:x.N<=k:=by omega
  simp[h1,hk]
end
section
variable {w0 w w':World} {n:Nat} {A:Nat->Ag} {i j:Nat}
theorem an.inPush (h:an w0 w (n+1) A) (hi:i < n) {B:Option Addr} {c:Nat} {vs:List SV} (hA:A i=uG B c vs) {D:Option Addr} {m:Nat} {z:Nat->Nat} (hD:A n=zx D m z) (hm:1<=m/\m<=9000) (hz:∀j,j < m->z j < 256) (cD:Nat) (hmc:m<=cD) :
  ∃xs:List Value,SL w 41 1 B vs.length c xs/\∀(B':Option Addr) (c':Nat) (w':World),SL w' 41 1 B' (vs.length+1) c' (xs++[.slice D m cD])->aa (fun k=>∃a,B=some a/\k=a.block) w w'->(∀a,B'=some a->(∃a',B=some a'/\a.block=a'.block)\/w.heap.size<=a.block)->an w0 w' n (bW A i (uG B' c' (vs++[⟨0,m,fun j=>((z j:Nat):Int)⟩]))):=by
 obtain⟨O,h1,h2,h3,h4⟩:=h;have hi1:=h1 i (by omega);rw[hA]at hi1;obtain⟨R,t1,t2,t3⟩:=hi1;have hn1:=h1 n (by omega);rw[hD]at hn1;obtain⟨p1,p2,p3⟩:=hn1;have hd:∀k,O i k->¬O n k:=h3 i n (by omega) (by omega) (by omega);have t4:LL w 0 B c vs (fun k=>R k\/dg D k):=t1.more (fun k hr=>.inl hr) (fun a ha hr=>hr.elim (t1.blk a ha).2 (fun hb=>hd a.block ((t3 _).2 (.inr ⟨a,ha,rfl⟩)) ((p3 _).2 hb)));obtain⟨⟨lx,e1,e2,e3⟩,hb⟩:=t4;have t4:LL w 0 B c vs (fun k=>R k\/dg D k):=⟨⟨lx,e1,e2,e3⟩,hb⟩
 refine⟨lx.map SE.val,e2,fun B' c' w' hS hK ha=>?_⟩;have hR':∀k,R k\/dg D k->k < w.heap.size:=fun k hr=>hr.elim (t2 k) (fun⟨a,e,hk⟩=>by rw[hk];exact p2 a e);have hL:=t4.push hR' (Nat.zero_le _) e1 e3 (ls:=[⟨⟨0,m,fun j=>((z j:Nat):Int)⟩,D,cD⟩]) (fun x hx=>by
  obtain rfl:=List.mem_singleton.1 hx
  exact⟨hm.1,hm.2,hmc,fun j hj=>⟨by show(0:Int)<=((z j:Nat):Int);omega,by have:=hz j hj;show((z j:Nat):Int) < 256;omega⟩,p1,fun a e=>.inr ⟨a,e,rfl⟩⟩) hS hK ha
 have hF:∀k,(∃a,B=some a/\k=a.block)->O i k:=fun k ⟨a,e,hk⟩=>(t3 k).2 (.inr ⟨a,e,hk⟩);have hO':∀k,((R k\/dg D k)\/dg B' k)->O i k\/O n k\/w.heap.size<=k:=fun k hk=>by
  rcases hk with (hk | hk) | ⟨a,e,hk⟩
  ·exact .inl ((t3 k).2 (.inl hk))
  ·exact .inr (.inl ((p3 k).2 hk))
  ·rcases ha a e with ⟨a',e',hb'⟩ | hb'
   ·exact .inl ((t3 k).2 (.inr ⟨a',e',by rw[hk,hb']⟩))
   ·exact .inr (.inr (by omega))
 have hs:=h4.size;have hlt:∀a,a < n->∀k,O a k->k < w.heap.size:=fun a ha k hk=>(A a).lt (h1 a (by omega)) k hk;refine⟨fun j=>if j=i then (fun k=>(R k\/dg D k)\/dg B' k) else O j,fun j hj=>?_,fun j hj k hk=>?_,fun a b ha' hb' hab k h5 h6=>?_,aa.below h4 hK (fun k hk=>h2 i (by omega) k (hF k hk)) hs⟩
 ·by_cases e:j=i
  ·subst e;simp only[bL,↓reduceIte]
   exact⟨_,hL,fun k hr=>bp (hR' k hr) hK.size,fun k=>Iff.rfl⟩
  ·simp only[cy _ _ e,if_neg e]
   exact(A j).keep (h1 j (by omega)) hK (fun k hf hjk=>h3 j i (by omega) (by omega) e k hjk (hF k hf))
 ·by_cases e:j=i
  ·simp only[if_pos e]at hk;rcases hO' k hk with h | h | h
   ·exact h2 i (by omega) k h
   ·exact h2 n (by omega) k h
   ·omega
  ·simp only[if_neg e]at hk
   exact h2 j (by omega) k hk
 ·have main:∀b,b < n->b ≠ i->∀k,((R k\/dg D k)\/dg B' k)->O b k->False:=fun b hb2 hbi k h5 h6=>by
   rcases hO' k h5 with h | h | h
   ·exact h3 b i (by omega) (by omega) hbi k h6 h
   ·exact h3 b n (by omega) (by omega) (by omega) k h6 h
   ·have:=hlt b hb2 k h6;omega
  by_cases e:a=i
  ·have e2:¬b=i:=fun e2=>hab (e.trans e2.symm);simp only[if_pos e]at h5;simp only[if_neg e2]at h6
   exact main b hb' e2 k h5 h6
  ·simp only[if_neg e]at h5;by_cases e2:b=i
   ·simp only[if_pos e2]at h6
    exact main a ha' e k h6 h5
   ·simp only[if_neg e2]at h6
    exact h3 a b (by omega) (by omega) hab k h5 h6
theorem an.sameL (h:an w0 w n A) (hi:i < n) (hj:j < n) {g:Nat} {s:RS} {B B':Option Addr} {c c':Nat} {vs vs':List SV} (hA:A i=fP g s B c vs) (hB:A j=uG B' c' vs') (hl:vs.length=vs'.length) (he:∀(k:Nat) (v v':SV),vs[k]? = some v->vs'[k]? = some v'->v.n=v'.n/\∀j,j < v.n->v.z j=v'.z j):mp w B B' vs.length:=by
 obtain⟨O,h1,_⟩:=h;have hi1:=h1 i hi;rw[hA]at hi1;obtain⟨W,R,sb,l,ub,eb,t1,t2,_⟩:=hi1;have hj1:=h1 j hj;rw[hB]at hj1;obtain⟨R',p1,_⟩:=hj1
 exact t2.same p1 hl he
end
def sf:Nat->Nat:=fun _=>3
structure dD (L:cY) (z0 z1:Nat->Nat->Int) (K M0 M1 a0 a1:Nat):Prop where
 p0:lQ sf z0
 p1:lQ sf z1
 d0:aG sf z0 K L.x0 M0
 d1:aG sf z1 K L.x1 M1
 v0:yU sf z0 L.x0 L.v0
 v1:yU sf z1 L.x1 L.v1
 c0:zO L.x0
 c1:zO L.x1
 n0:L.x0.N+L.x0.q<=a0
 n1:L.x1.N+L.x1.q<=a1
 ks:L.keys=K
 dd:¬L.x0.cf.d=L.x1.cf.d
 bb:L.x0.cf.b=L.x1.cf.b
section
variable {L L':cY} {z0 z1:Nat->Nat->Int} {K M0 M1 M a0 a1 b0 b1:Nat}
theorem dD.more (h:dD L z0 z1 K M0 M1 a0 a1) (h0:a0<=b0) (h1:a1<=b1):dD L z0 z1 K M0 M1 b0 b1:=
 ⟨h.p0,h.p1,h.d0,h.d1,h.v0,h.v1,h.c0,h.c1,a9 h.n0 h0,a9 h.n1 h1,h.ks,h.dd,h.bb⟩
theorem dD.submit0 (h:dD L z0 z1 K M0 M1 a0 a1) (b:Nat->Int) (hb:∀j,0<=b j/\b j < 256):∃s',L.x0.ts.submit 0 3 b=(0,s')/\∀(B:Option Addr) (c:Nat),dD { L with x0:={ L.x0 with q:=L.x0.q+1,ts:=s' },i0:=B,ci0:=c,v0:=L.v0++[⟨0,3,b⟩] } (ki z0 (L.x0.N+L.x0.q) b) z1 K M0 M1 (a0+1) a1:=by
 have hp:=h.p0.set (L.x0.N+L.x0.q) hb;have hd:=h.d0.rez (z':=ki z0 (L.x0.N+L.x0.q) b) (fun k hk=>(oh _ _ (by omega)).symm);obtain⟨s',h1,h2⟩:=hd.submit hp;rw[jo]at h1
 exact⟨s',h1,fun B c=>⟨hp,h.p1,h2,h.d1,h.v0.push ⟨0,3,b⟩ rfl (by show L.x0.N+(L.x0.q+1)=_;omega),h.v1,h.c0.submit _,h.c1,by have:=h.n0;show L.x0.N+(L.x0.q+1)<=a0+1;omega,h.n1,h.ks,h.dd,h.bb⟩⟩
theorem dD.submit1 (h:dD L z0 z1 K M0 M1 a0 a1) (b:Nat->Int) (hb:∀j,0<=b j/\b j < 256):∃s',L.x1.ts.submit 0 3 b=(0,s')/\∀(B:Option Addr) (c:Nat),dD { L with x1:={ L.x1 with q:=L.x1.q+1,ts:=s' },i1:=B,ci1:=c,v1:=L.v1++[⟨0,3,b⟩] } z0 (ki z1 (L.x1.N+L.x1.q) b) K M0 M1 a0 (a1+1):=by
 have hp:=h.p1.set (L.x1.N+L.x1.q) hb;have hd:=h.d1.rez (z':=ki z1 (L.x1.N+L.x1.q) b) (fun k hk=>(oh _ _ (by omega)).symm);obtain⟨s',h1,h2⟩:=hd.submit hp;rw[jo]at h1
 exact⟨s',h1,fun B c=>⟨h.p0,hp,h.d0,h2,h.v0,h.v1.push ⟨0,3,b⟩ rfl (by show L.x1.N+(L.x1.q+1)=_;omega),h.c0,h.c1.submit _,h.n0,by have:=h.n1;show L.x1.N+(L.x1.q+1)<=a1+1;omega,h.ks,h.dd,h.bb⟩⟩
theorem dD.renewed (h:dD L z0 z1 K M0 M1 a0 a1) {x0 x1:cR} {n0 n1:Nat} (s0:mF L.x0 x0 n0) (s1:mF L.x1 x1 n1) (r0:il x0 L'.x0) (r1:il x1 L'.x1) (d0:aG sf z0 (K+4) L'.x0 M) (d1:aG sf z1 (K+4) L'.x1 M) (hk:L'.keys=K+4) (hv0:L'.v0=L.v0) (hv1:L'.v1=L.v1):dD L' z0 z1 (K+4) M M a0 a1:=by
 have e0:L'.x0.N+L'.x0.q=L.x0.N+L.x0.q:=by rw[r0.N,r0.q,s0.N,s0.q,Nat.add_zero]
 have e1:L'.x1.N+L'.x1.q=L.x1.N+L.x1.q:=by rw[r1.N,r1.q,s1.N,s1.q,Nat.add_zero]
 refine⟨h.p0,h.p1,d0,d1,by rw[hv0];exact h.v0.same e0,by rw[hv1];exact h.v1.same e1,fun j hj=>r0.cov j (by rw[<-r0.N];exact hj),fun j hj=>r1.cov j (by rw[<-r1.N];exact hj),by rw[e0];exact h.n0,by rw[e1];exact h.n1,hk,?_,?_⟩
 ·rw[r0.cd,r1.cd,s0.cf,s1.cf]
  exact h.dd
 ·rw[r0.cb,r1.cb,s0.cf,s1.cf]
  exact h.bb
end
def KB (i:Nat) (k:Int) (a0 a1 nb:Nat):Prop:=(k=0/\a0=12*i/\a1=12*i/\nb=24*i)\/(k=1/\a0=12*i+12/\a1=12*i/\nb=24*i+12)\/(k=2/\a0=12*i+12/\a1=12*i+12/\nb=24*i+24)
theorem aG.same_in {z:Nat->Nat->Int} {x:cR} {K M:Nat} {v:List SV} {y:cR} (hd:aG sf z K x M) (hv:yU sf z y v):∀(k:Nat) (e e':SV),x.vs[k]? = some e->v[k]? = some e'->e.n=e'.n/\∀j,j < e.n->e.z j=e'.z j:=fun k e e' h1 h2=>by
 have h3:=hd.ov k e h1;have h4:=hv.fit k e' h2
 exact⟨h3.2.1.trans h4.1.symm,fun j hj=>by rw[h3.2.1]at hj;rw[h3.2.2 j hj,h4.2 j hj]⟩
end Go.Proofs.YtbfpdnnphdagjaaGreat

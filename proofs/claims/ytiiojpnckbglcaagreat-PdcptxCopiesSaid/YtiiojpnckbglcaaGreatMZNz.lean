import Derived.Test.YtiiojpnckbglcaaGreatMTBz
import Derived.Test.YtiiojpnckbglcaaGreatSEz
import Derived.Test.YtiiojpnckbglcaaGreatMZAz
import Derived.ProofKit
import Derived.OpenShut
import Derived.ChangeOld
import Derived.Deep.Fields
import Derived.Deep.Slices
set_option maxRecDepth 100000
set_option maxHeartbeats 1600000
set_option linter.unusedVariables false
set_option linter.unusedSimpArgs false
namespace Go.Proofs.YtiiojpnckbglcaaGreat
open Go.ChangeShapes Go.WideShapes Go.ChangeAt Go.RowKit
def mR:Option Value->Int
 | some (.int _ a)=>a
 | _=>0
section
variable {H:Type} {enc:TypeId×Value->H} {w:World} {base:Nat} {spare:Nat->Bool} {held:Bool}
theorem lP {fuel:Nat} {L:List Value} {x:DataW H×List MemPlace} (h:DataW.trod enc Tryz.prog w base spare held fuel 23 L=some x) :
  ∃f:Nat->Int,(∀j,j < 16->L[j]? = some (.int .u8 (f j)))/\∀j,j < 16->0<=f j/\f j < 256:=by
 obtain⟨xs,m,_,_,_,hx,hel⟩:=DataW.trod_array Tryz.underlying23 h;have c5:Tryz.prog.cellsOf 5 = 1:=by kernel_rfl
 have key:∀j,j < 16->∃a,L[j]? = some (.int .u8 a)/\0<=a/\a < 256:=fun j hj=>by
  have h1:=hel j hj;rw[c5,Nat.mul_one,List.getElem?_eq_getElem (by omega)]at h1;obtain⟨a,e,_,hw⟩:=DataW.trod_int Tryz.underlying5 h1;have h2:=congrArg List.head? e;simp[List.head?_take]at h2;have hb:=bounds_u8 hw
  exact⟨a,h2,hb.1,by omega⟩
 refine⟨fun j=>mR L[j]?,fun j hj=>?_,fun j hj=>?_⟩
 ·obtain⟨a,e,_⟩:=key j hj;simp only[e,mR]
 ·obtain⟨a,e,hb⟩:=key j hj;simp only[e,mR]
  exact hb
theorem qR {r:Reach} {b0:Nat} {v:Value} {d:DataW H} {p:List MemPlace}
  (hv:Value.okWide Tryz.prog w r b0 25 v) (h:DataW.Trod enc Tryz.prog w base spare held 25 v d p):∃c:aP,v=.agg c.arr/\c.Ok:=by
 obtain⟨cs,rfl,hsz⟩:=okWide_struct Tryz.underlying25 hv;have hc:Tryz.prog.cellsOf 25 = 39:=by kernel_rfl
 have h9:cs.size=39:=hsz.trans hc;obtain⟨fuel,hf⟩:=h;obtain⟨xs,n,_,_,_,hlen,hg⟩:=DataW.trod_struct Tryz.underlying25 hf;have c3:Tryz.prog.cellsOf 3 = 1:=by kernel_rfl
 have c22:Tryz.prog.cellsOf 22 = 1:=by kernel_rfl
 have c4:Tryz.prog.cellsOf 4 = 1:=by kernel_rfl
 have c16:Tryz.prog.cellsOf 23 = 16:=by kernel_rfl
 have hx9:xs.length=9:=hlen;have keyi:∀(i o:Nat) (ty:TypeId),Tryz.prog.underlying ty=some (.int .i64)->i < 9->DataW.trod enc Tryz.prog w base spare held n ty (List.take 1 (List.drop o (Value.agg cs).cells.toList))=xs[i]?->∃a,cs[o]? = some (Value.int .i64 a):=by
  intro i o ty hu hi h1;rw[List.getElem?_eq_getElem (by omega)]at h1;obtain⟨a,e,_,_⟩:=DataW.trod_int hu h1;refine⟨a,?_⟩;have h2:=congrArg List.head? e;simp[Value.cells,List.head?_take]at h2
  exact h2
 have keyb:∀(i o:Nat),i < 9->DataW.trod enc Tryz.prog w base spare held n 4 (List.take 1 (List.drop o (Value.agg cs).cells.toList))=xs[i]?->∃a,cs[o]? = some (Value.bool a):=by
  intro i o hi h1;rw[List.getElem?_eq_getElem (by omega)]at h1;obtain⟨a,e,_⟩:=DataW.trod_bool Tryz.underlying4 h1;refine⟨a,?_⟩;have h2:=congrArg List.head? e;simp[Value.cells,List.head?_take]at h2
  exact h2
 have keya:∀(i o:Nat),i < 9->DataW.trod enc Tryz.prog w base spare held n 23 (List.take 16 (List.drop o (Value.agg cs).cells.toList))=xs[i]?->∃f:Nat->Int,(∀j,j < 16->cs[o+j]? = some (.int .u8 (f j)))/\∀j,j < 16->0<=f j/\f j < 256:=by
  intro i o hi h1;rw[List.getElem?_eq_getElem (by omega)]at h1;obtain⟨f,e,hb⟩:=lP h1;refine⟨f,fun j hj=>?_,hb⟩;have:=e j hj;rw[List.getElem?_take,if_pos hj,List.getElem?_drop]at this;simpa[Value.cells]using this
 obtain⟨a0,e0⟩:=keyi 0 0 3 Tryz.underlying3 (by decide) (by have h1:DataW.trod enc Tryz.prog w base spare held n 3 (List.take (Tryz.prog.cellsOf 3) (List.drop 0 (Value.agg cs).cells.toList))=xs[0]?:=hg 0 _ rfl;rwa [c3]at h1);obtain⟨a1,e1⟩:=keyi 1 1 22 Tryz.underlying22 (by decide) (by have h1:DataW.trod enc Tryz.prog w base spare held n 22 (List.take (Tryz.prog.cellsOf 22) (List.drop 1 (Value.agg cs).cells.toList))=xs[1]?:=hg 1 _ rfl;rwa [c22]at h1);obtain⟨a2,e2,r2⟩:=keya 2 2 (by decide) (by have h1:DataW.trod enc Tryz.prog w base spare held n 23 (List.take (Tryz.prog.cellsOf 23) (List.drop 2 (Value.agg cs).cells.toList))=xs[2]?:=hg 2 _ rfl;rwa [c16]at h1);obtain⟨a3,e3,r3⟩:=keya 3 18 (by decide) (by have h1:DataW.trod enc Tryz.prog w base spare held n 23 (List.take (Tryz.prog.cellsOf 23) (List.drop 18 (Value.agg cs).cells.toList))=xs[3]?:=hg 3 _ rfl;rwa [c16]at h1);obtain⟨a4,e4⟩:=keyb 4 34 (by decide) (by have h1:DataW.trod enc Tryz.prog w base spare held n 4 (List.take (Tryz.prog.cellsOf 4) (List.drop 34 (Value.agg cs).cells.toList))=xs[4]?:=hg 4 _ rfl;rwa [c4]at h1);obtain⟨a5,e5⟩:=keyb 5 35 (by decide) (by have h1:DataW.trod enc Tryz.prog w base spare held n 4 (List.take (Tryz.prog.cellsOf 4) (List.drop 35 (Value.agg cs).cells.toList))=xs[5]?:=hg 5 _ rfl;rwa [c4]at h1);obtain⟨a6,e6⟩:=keyb 6 36 (by decide) (by have h1:DataW.trod enc Tryz.prog w base spare held n 4 (List.take (Tryz.prog.cellsOf 4) (List.drop 36 (Value.agg cs).cells.toList))=xs[6]?:=hg 6 _ rfl;rwa [c4]at h1);obtain⟨a7,e7⟩:=keyi 7 37 3 Tryz.underlying3 (by decide) (by have h1:DataW.trod enc Tryz.prog w base spare held n 3 (List.take (Tryz.prog.cellsOf 3) (List.drop 37 (Value.agg cs).cells.toList))=xs[7]?:=hg 7 _ rfl;rwa [c3]at h1);obtain⟨a8,e8⟩:=keyi 8 38 3 Tryz.underlying3 (by decide) (by have h1:DataW.trod enc Tryz.prog w base spare held n 3 (List.take (Tryz.prog.cellsOf 3) (List.drop 38 (Value.agg cs).cells.toList))=xs[8]?:=hg 8 _ rfl;rwa [c3]at h1);obtain⟨c,hcd⟩:∃c:aP,c=⟨a0,a1,a2,a3,a4,a5,a6,a7,a8⟩:=⟨_,rfl⟩
 refine⟨c,?_,by rw[hcd];exact⟨r2,r3⟩⟩;have:cs=c.arr:=by
  apply Array.ext_getElem?;intro i;by_cases hi:i < 39
  ·rw[c.arr_at hi,hcd];unfold aP.cell;rcases (by omega:i=0\/i=1\/(2<=i/\i < 18)\/(18<=i/\i < 34)\/i=34\/i=35\/i=36\/i=37\/i=38)with rfl | rfl | h | h | rfl | rfl | rfl | rfl | rfl
   ·exact e0
   ·exact e1
   ·rw[if_neg (by omega),if_neg (by omega),if_pos (by omega)];have:=e2 (i-2) (by omega)
    rwa [show 2+(i-2)=i by omega]at this
   ·rw[if_neg (by omega),if_neg (by omega),if_neg (by omega),if_pos (by omega)];have:=e3 (i-18) (by omega)
    rwa [show 18+(i-18)=i by omega]at this
   ·exact e4
   ·exact e5
   ·exact e6
   ·exact e7
   ·exact e8
  ·rw[Array.getElem?_eq_none (by omega),Array.getElem?_eq_none (by rw[c.arr_size];omega)]
 rw[this]
end
end Go.Proofs.YtiiojpnckbglcaaGreat
namespace Go.Proofs.YtiiojpnckbglcaaGreat
open Go.RowKit Go.ChangeShapes Go.WideShapes Go.ChangeAt
attribute [local go_sem ↓] Go.wp_at_zero Go.wp_at_succ
structure SV where
 kind:Int
 now:Int
 cnt:Int
 A:Option Addr
 n:Nat
 c:Nat
 z:Nat->Int
 key:Nat->Int
 code:Nat->Int
def SV.cell (s:SV) (j:Nat):Value:=if j=0 then .int .i64 s.kind else if j=1 then .int .i64 s.now else if j=2 then .int .u32 s.cnt else if j=3 then .slice s.A s.n s.c else if j < 20 then .int .u8 (s.key (j-4)) else .int .u8 (s.code (j-20))
structure iC (w:World) (s:SV):Prop where
 knd:-9223372036854775808<=s.kind/\s.kind<=9223372036854775807
 now:-9223372036854775808<=s.now/\s.now<=9223372036854775807
 cnt:0<=s.cnt/\s.cnt < 4294967296
 mx:s.n<=maxLen
 cap:s.n<=s.c
 byte:∀j,j < s.n->0<=s.z j/\s.z j < 256
 key:∀j,j < 16->0<=s.key j/\s.key j < 256
 code:∀j,j < 16->0<=s.code j/\s.code j < 256
 row:av w w.heap.size s.A s.n (fun j=>.int .u8 (s.z j))
theorem iC.below {w w':World} {s:SV} (h:iC w s) (hb:Below w.heap.size w w'):iC w' s:=⟨h.knd,h.now,h.cnt,h.mx,h.cap,h.byte,h.key,h.code,h.row.next hb⟩
structure fh (w:World) (A:Option Addr) (m:Nat) (S:Nat->SV):Prop where
 at_:m ≠ 0->∃lb lo,A=some ⟨lb,lo,none⟩/\lb < w.heap.size/\∀k,k < m->∀j,j < 36->w.cell? ⟨lb,lo+k*36+j,none⟩=some ((S k).cell j)
 ok:∀k,k < m->iC w (S k)
theorem fh.below {w w':World} {A:Option Addr} {m:Nat} {S:Nat->SV} (h:fh w A m S) (hb:Below w.heap.size w w'):fh w' A m S:=
 ⟨fun hm=>by
  obtain⟨lb,lo,e,hlt,hc⟩:=h.at_ hm
  exact⟨lb,lo,e,bg hlt hb.size,fun k hk j hj=>(hb.cell (p:=⟨lb,lo+k*36+j,none⟩) hlt).trans (hc k hk j hj)⟩,fun k hk=>(h.ok k hk).below hb⟩
section
variable {H:Type} {enc:TypeId×Value->H} {w:World} {base:Nat} {spare:Nat->Bool} {held:Bool}
theorem lz {fuel:Nat} {v:Value} {x:DataW H×List MemPlace} (h:DataW.trod enc Tryz.prog w base spare held fuel 44 [v] = some x) (hsp:∀b,spare b=true) :
  ∃a len cap zs,v=.slice a len cap/\qX .u8 w a len cap zs:=by
 rcases open_ints Tryz.underlying44 Tryz.underlying5 (by kernel_rfl) h with ⟨hcs,_⟩ | ⟨x,l,c,zs,hcs,_,hl,hm,hz,_,hcell,hwz⟩
 ·simp at hcs;subst hcs
  exact⟨none,0,0,[],rfl,.inl ⟨rfl,rfl,rfl,rfl⟩⟩
 ·simp at hcs;subst hcs;rw[if_pos (hsp _)]at hz
  exact⟨some x,l,c,zs,rfl,.inr ⟨x,rfl,hl,hm,hz,hcell,hwz⟩⟩
theorem n3 {fuel:Nat} {cs:List Value} {x:DataW H×List MemPlace} (h:DataW.trod enc Tryz.prog w base spare held fuel 56 cs=some x) (hsp:∀b,spare b=true):∃s:SV,(∀j,j < 36->cs[j]? = some (s.cell j))/\iC w s:=by
 obtain⟨xs,n,_,_,hlc,hlen,hg⟩:=DataW.trod_struct Tryz.underlying56 h;have c3:Tryz.prog.cellsOf 3 = 1:=by kernel_rfl
 have c26:Tryz.prog.cellsOf 26 = 1:=by kernel_rfl
 have c27:Tryz.prog.cellsOf 44 = 1:=by kernel_rfl
 have c16:Tryz.prog.cellsOf 23 = 16:=by kernel_rfl
 have hc36:Tryz.prog.cellsOf 56 = 36:=by kernel_rfl
 rw[hc36]at hlc;have hx6:xs.length=6:=hlen;have keyi:∀(i o:Nat) (k:IntKind) (ty:TypeId),Tryz.prog.underlying ty=some (.int k)->i < 6->DataW.trod enc Tryz.prog w base spare held n ty ((cs.drop o).take 1)=xs[i]?->∃a,cs[o]? = some (Value.int k a)/\(Lit.int k a).wf=true:=by
  intro i o k ty hu hi h1;rw[List.getElem?_eq_getElem (by omega)]at h1;obtain⟨a,e,_,hw⟩:=DataW.trod_int hu h1;refine⟨a,?_,hw⟩;have h2:=congrArg List.head? e;simp[List.head?_take]at h2
  exact h2
 have keya:∀(i o:Nat),i < 6->DataW.trod enc Tryz.prog w base spare held n 23 ((cs.drop o).take 16)=xs[i]?->∃f:Nat->Int,(∀j,j < 16->cs[o+j]? = some (.int .u8 (f j)))/\∀j,j < 16->0<=f j/\f j < 256:=by
  intro i o hi h1;rw[List.getElem?_eq_getElem (by omega)]at h1;obtain⟨f,e,hb⟩:=lP h1;refine⟨f,fun j hj=>?_,hb⟩;have:=e j hj
  rwa [List.getElem?_take,if_pos hj,List.getElem?_drop]at this
 have g0:DataW.trod enc Tryz.prog w base spare held n 3 ((cs.drop 0).take (Tryz.prog.cellsOf 3))=xs[0]?:=hg 0 _ rfl;have g1:DataW.trod enc Tryz.prog w base spare held n 3 ((cs.drop 1).take (Tryz.prog.cellsOf 3))=xs[1]?:=hg 1 _ rfl;have g2:DataW.trod enc Tryz.prog w base spare held n 26 ((cs.drop 2).take (Tryz.prog.cellsOf 26))=xs[2]?:=hg 2 _ rfl;have g3:DataW.trod enc Tryz.prog w base spare held n 44 ((cs.drop 3).take (Tryz.prog.cellsOf 44))=xs[3]?:=hg 3 _ rfl;have g4:DataW.trod enc Tryz.prog w base spare held n 23 ((cs.drop 4).take (Tryz.prog.cellsOf 23))=xs[4]?:=hg 4 _ rfl;have g5:DataW.trod enc Tryz.prog w base spare held n 23 ((cs.drop 20).take (Tryz.prog.cellsOf 23))=xs[5]?:=hg 5 _ rfl;rw[c3]at g0 g1;rw[c26]at g2;rw[c27]at g3;rw[c16]at g4 g5;obtain⟨a0,e0,w0⟩:=keyi 0 0 .i64 _ Tryz.underlying3 (by decide) g0;obtain⟨a1,e1,w1⟩:=keyi 1 1 .i64 _ Tryz.underlying3 (by decide) g1;obtain⟨a2,e2,w2⟩:=keyi 2 2 .u32 _ Tryz.underlying26 (by decide) g2;obtain⟨f4,e4,r4⟩:=keya 4 4 (by decide) g4;obtain⟨f5,e5,r5⟩:=keya 5 20 (by decide) g5;obtain⟨v3,e3⟩:∃v,cs[3]? = some v:=⟨cs[3],List.getElem?_eq_getElem (by omega)⟩
 have h3:(cs.drop 3).take 1=[v3]:=by
  rw[List.drop_eq_getElem_cons (by omega),List.take_succ_cons,List.take_zero];rw[List.getElem?_eq_getElem (by omega)]at e3;rw[Option.some.inj e3]
 rw[h3,List.getElem?_eq_getElem (by omega)]at g3;obtain⟨A,len,cap,zs,rfl,hr⟩:=lz g3 hsp;have b0:=bounds_i64 w0;have b1:=bounds_i64 w1;have b2:=bounds_u32 w2;have hu:=pH hr;have hb0:-9223372036854775808<=a0/\a0<=9223372036854775807:=by omega
 have hb1:-9223372036854775808<=a1/\a1<=9223372036854775807:=by omega
 have hb2:0<=a2/\a2 < 4294967296:=by omega
 have hmx:len<=maxLen:=by rcases hr with ⟨_,h,_⟩ | ⟨_,_,h1,h2,_⟩<;>omega
 refine⟨⟨a0,a1,a2,A,len,cap,fun j=>zs.getD j 0,f4,f5⟩,fun j hj=>?_,⟨hb0,hb1,hb2,hmx,hu.1,hu.2,r4,r5,oZ hr⟩⟩;unfold SV.cell;rcases (by omega:j=0\/j=1\/j=2\/j=3\/(4<=j/\j < 20)\/(20<=j/\j < 36))with rfl | rfl | rfl | rfl | hj2 | hj2
 ·exact e0
 ·exact e1
 ·exact e2
 ·exact e3
 ·rw[if_neg (by omega),if_neg (by omega),if_neg (by omega),if_neg (by omega),if_pos (by omega)];have:=e4 (j-4) (by omega)
  rwa [show 4+(j-4)=j by omega]at this
 ·rw[if_neg (by omega),if_neg (by omega),if_neg (by omega),if_neg (by omega),if_neg (by omega)];have:=e5 (j-20) (by omega)
  rwa [show 20+(j-20)=j by omega]at this
theorem iY {fuel:Nat} {a:Option Addr} {len cap:Nat} {x:DataW H×List MemPlace}
  (h:DataW.trod enc Tryz.prog w base spare held fuel 51 [.slice a len cap] = some x) (hsp:∀b,spare b=true) :
  len<=maxLen/\len<=cap/\∃S,fh w a len S:=by
 rcases Go.Deep.open_slice Tryz.underlying51 h with ⟨hcs,_⟩ | ⟨ad,l,c,m,n,D,Pl,hcs,_,hl,hm,hmm,_,hf⟩
 ·simp at hcs;obtain⟨rfl,rfl,rfl⟩:=hcs
  exact⟨by unfold maxLen;omega,Nat.le_refl _,fun _=>⟨0,0,0,none,0,0,fun _=>0,fun _=>0,fun _=>0⟩,⟨fun h=>absurd rfl h,fun k hk=>by omega⟩⟩
 ·simp at hcs;obtain⟨rfl,rfl,rfl⟩:=hcs;rw[if_pos (hsp _)]at hmm;subst hmm;have hc36:Tryz.prog.cellsOf 56 = 36:=by kernel_rfl
  rw[hc36]at hf;have h0:∀i,∃s:SV,i < len->(∀j,j < 36->w.cell? ((ad.add (i*36)).add j)=some (s.cell j))/\iC w s:=fun i=>by
   by_cases hi:i < len
   ·obtain⟨cs',h1,h2⟩:=hf i (by omega);obtain⟨s,hs,hok⟩:=n3 h2 hsp;refine⟨s,fun _=>⟨fun j hj=>?_,hok⟩⟩;obtain⟨_,hlen,hcell⟩:=World.cells?_some h1;rw[hcell j hj,hs j hj]
   ·exact⟨⟨0,0,0,none,0,0,fun _=>0,fun _=>0,fun _=>0⟩,fun h=>absurd h hi⟩
  obtain⟨S,hS⟩:=Classical.axiomOfChoice h0;refine⟨by omega,hl,S,⟨fun hn=>?_,fun k hk=>(hS k hk).2⟩⟩;obtain⟨b,off,spot⟩:=ad;have c0:=(hS 0 (by omega)).1 0 (by decide);have hspot:spot=none:=by simpa[Addr.add]using World.cell?_spot c0
  subst hspot;have hadd:∀o j,(⟨b,o,none⟩:Addr).add j=⟨b,o+j,none⟩:=fun o j=>by unfold Addr.add;split<;>simp_all
  refine⟨b,off,rfl,?_,fun k hk j hj=>?_⟩
  ·rw[hadd,hadd]at c0
   exact World.block_lt_of_cell? w _ c0
  ·have:=(hS k hk).1 j hj;rw[hadd,hadd]at this
   exact this
end
def jn (S:Nat->SV):Nat->Int
 | 0=>0
 | k+1=>wrap64 (jn S k+(S k).n)
def gS (m:Nat) (most:Nat) (S:Nat->SV):Bool:=decide (m<=most) && decide (jn S (min m (most+1))<=9001)
theorem mi (S:Nat->SV):∀k,-9223372036854775808<=jn S k/\jn S k<=9223372036854775807
 | 0=>by unfold jn;omega
 | k+1=>by unfold jn wrap64;omega
theorem lf (A:Option Addr) (m c most:Nat) (S:Nat->SV) (hmost:most<=1000) (w:World) (h:fh w A m S) (hm:m<=maxLen) :
  Calls Tryz.prog 17 #[.slice A m c,.int .i64 (most:Int)] w fun e w'=>e=.returned (.bool (gS m most S))/\Below w.heap.size w w':=by
 have H:=Lib.hid h;unfold maxLen at hm;clear h;go_enter Tryz.func17,Tryz.ntmps17;go_wp2;go_loopw [5,6] (fun v5 v6 wr=>∃k:Nat,k<=m/\k<=most+1/\v6=.int .i64 k/\v5=.int .i64 (jn S k)/\Below w.heap.size w wr) (fun _ v6 _=>m-(intOf v6).toNat)
 case atStart=>exact⟨0,by omega,by omega,rfl,rfl,Below.refl _ _⟩
 case round=>
  obtain⟨k,hk,hk2,rfl,rfl,hb⟩:=hrel;have HB:=Lib.hid hb;clear hb;have k0:(0:Int)<=(k:Int):=by omega
  have k9:(k:Int)<=1001:=by omega
  have hr:=mi S k;have HN:Hid (jn S (k+1)=wrap64 (jn S k+(S k).n)):=Lib.hid rfl;by_cases hgo:k < m/\k<=most
  ·have d1:decide ((k:Int) < (m:Int))=true:=decide_eq_true (by omega);have d2:decide ((k:Int)<=(most:Int))=true:=decide_eq_true (by omega);have k1:(k:Int) < (m:Int):=by omega
   obtain⟨lb,lo,hA,hbl,hc⟩:=(H.out.below HB.out).at_ (by omega);have c3:wr.cell? ⟨lb,lo+k*36+3,none⟩=some (.slice (S k).A (S k).n (S k).c):=hc k hgo.1 3 (by decide);subst hA;clear hc;go_wp2;go_roundw
   case rel=>exact⟨k+1,by omega,by omega,by go_num,by rw[HN.out],HB.out⟩
   case measure=>simp[intOf];omega
  ·have hx:k=min m (most+1):=by omega
   have HF:Hid (gS m most S=(decide (m<=most) && decide (jn S k<=9001))):=Lib.hid (by unfold gS;rw[<-hx]);clear hx;by_cases hm2:m<=most
   ·have d1:decide ((k:Int) < (m:Int))=false:=decide_eq_false (by omega);have d3:decide ((m:Int)<=(most:Int))=true:=decide_eq_true (by omega);rw[decide_eq_true hm2,Bool.true_and]at HF;go_wp2;go_ret
    exact⟨aL (by rw[HF.out]),HB.out⟩
   ·have d3:decide ((m:Int)<=(most:Int))=false:=decide_eq_false (by omega);have hkm:k=most+1:=by omega
    have d2:decide ((k:Int)<=(most:Int))=false:=decide_eq_false (by omega);clear hkm;rw[decide_eq_false hm2,Bool.false_and]at HF;rcases Nat.lt_or_ge k m with hc | hc
    ·have d1:decide ((k:Int) < (m:Int))=true:=decide_eq_true (by omega);go_wp2;go_ret
     exact⟨aL (by rw[HF.out]),HB.out⟩
    ·have d1:decide ((k:Int) < (m:Int))=false:=decide_eq_false (by omega);go_wp2;go_ret
     exact⟨aL (by rw[HF.out]),HB.out⟩
end Go.Proofs.YtiiojpnckbglcaaGreat
namespace Go.Proofs.YtiiojpnckbglcaaGreat
open Go.RowKit
attribute [local go_sem ↓] Go.wp_at_zero Go.wp_at_succ
theorem j8 (g:Nat) (s:TS) (W R:Nat->Prop) (w:World) (h:bC w g s W R) (hf:s.Fine) (t:Int) (ht1:-9223372036854775808<=t) (ht2:t<=9223372036854775807) (A:Option Addr) (n c:Nat) (z:Nat->Int) (ha:kC w W A n z) (hbad:1073741824<=t\/n=0\/9000 < n) (hn9:n<=maxLen) :
  Calls Tryz.prog 12 #[.pointer (some ⟨g,0,none⟩),.int .i64 t,.slice A n c] w fun e w'=>e=.returned (.int .i64 (s.submit t n z).1)/\cV W R w w' g (s.submit t n z).2:=by
 unfold TS.submit;unfold maxLen at hn9;have hl3:(n:Int)<=9223372036854775807:=by omega
 clear hn9;by_cases ct:1073741824<=t
 ·rw[if_pos ct];have HTK:=Lib.hid (aG g s W R w h hf t ht1 ht2);have HA:=Lib.hid ha;have HF:=Lib.hid hf;have n0:(0:Int)<=(n:Int):=by omega
  clear h hf ha;go_enter Tryz.func12,Tryz.ntmps12;rw[if_pos ct,if_pos ct]at HTK;go_wp2_with (go_at_call 42;refine(HTK.out).mono ?_;rintro e w1 ⟨rfl,hO⟩;have HO:=Lib.hid hO;clear hO);go_ret
  exact⟨rfl,HO.out⟩
 rw[if_neg ct];by_cases cn:n=0
 ·rw[if_pos cn];have hz:(n:Int)=0:=by omega
  have HTK:=Lib.hid (aG g s W R w h hf t ht1 ht2);have HA:=Lib.hid ha;have HF:=Lib.hid hf;have n0:(0:Int)<=(n:Int):=by omega
  clear h hf ha;go_enter Tryz.func12,Tryz.ntmps12;rw[if_neg ct,if_neg ct]at HTK;go_wp2_with (go_at_call 42;refine(HTK.out).mono ?_;rintro e w1 ⟨rfl,hO⟩;have HO:=Lib.hid hO;clear hO);go_ret
  exact⟨rfl,HO.out⟩
 rw[if_neg cn];have cl:9000 < n:=by omega
 rw[if_pos cl];have HTK:=Lib.hid (aG g s W R w h hf t ht1 ht2);have HA:=Lib.hid ha;have HF:=Lib.hid hf;have n0:(0:Int)<=(n:Int):=by omega
 clear h hf ha;go_enter Tryz.func12,Tryz.ntmps12;rw[if_neg ct,if_neg ct]at HTK;have hl1:¬((n:Int)=0):=by omega
 have hl2:(9000:Int) < (n:Int):=by omega
 go_wp2_with (go_at_call 42;refine(HTK.out).mono ?_;rintro e w1 ⟨rfl,hO⟩;have HO:=Lib.hid hO;clear hO);go_ret
 exact⟨rfl,HO.out⟩
def cN (x:Int):List PV->Option Nat
 | []=>none
 | p :: r=>if p.ct=x then some 0 else (cN x r).map (·+1)
theorem fR {x:Int}:∀{l:List PV} {i:Nat},cN x l=some i->∃e,l[i]? = some e/\e.ct=x/\∀j,j < i->∀e,l[j]? = some e->e.ct ≠ x
 | [],i,h=>by cases h
 | q :: r,i,h=>by
  unfold cN at h
  split at h
  ·cases h
   exact⟨q,rfl,by assumption,fun j hj=>absurd hj (by omega)⟩
  ·cases hr:cN x r with
   | none=>rw[hr]at h;cases h
   | some k=>
    rw[hr]at h;simp only[Option.map_some,Option.some.injEq]at h;subst h;obtain⟨e,h1,h2,h3⟩:=fR hr;refine⟨e,by simpa using h1,h2,fun j hj e' he=>?_⟩
    cases j with
    | zero=>
     have:q=e':=by simpa using he
     subst this
     assumption
    | succ j=>exact h3 j (by omega) e' (by simpa using he)
theorem fT {x:Int}:∀{l:List PV},cN x l=none->∀e,e∈l->e.ct ≠ x
 | [],_,e,he=>by cases he
 | q :: r,h,e,he=>by
  unfold cN at h
  split at h
  ·cases h
  ·have hr:cN x r=none:=by
    cases hx:cN x r with
    | none=>rfl
    | some k=>rw[hx]at h;cases h
   rcases List.mem_cons.1 he with rfl | he
   ·assumption
   ·exact fT hr e he
def TS.confirmed (s:TS) (x:Int):Int×TS:=match cN x s.P with | some i=>(0,{ s with P:=s.P.eraseIdx i }) | none=>(10,s)
def TS.rekey (s:TS) (U:List (Nat->Int)) (f c:Nat->Int):Int×TS:=if du f U=true then (461,s) else (0,s.rekeyed f c)
end Go.Proofs.YtiiojpnckbglcaaGreat

import Derived.Test.YtbfpdnnphdagjaaGreatMZMy
import Derived.Test.YtbfpdnnphdagjaaGreatTAy
import Derived.Test.YtbfpdnnphdagjaaGreatMDAy
import Derived.Test.YtbfpdnnphdagjaaGreatMTBy
import Derived.Laws.StructEq
import Derived.ChangeKeysEq
import Derived.ProofKit
import Derived.OpenShut
import Derived.ChangeOld
import Derived.Deep.Fields
set_option maxRecDepth 100000
set_option maxHeartbeats 1600000
set_option linter.unusedVariables false
set_option linter.unusedSimpArgs false
namespace Go.Proofs.YtbfpdnnphdagjaaGreat
open Go.RowKit
attribute [local go_sem ↓] Go.wp_at_zero Go.wp_at_succ
theorem fX (c:ax) (w:World):Calls Tryz.prog 7 #[.agg c.arr] w fun e w'=>e=.returned (.bool (decide c.Valid))/\Below w.heap.size w w':=by
 have h0:c.arr[0]? = some (.int .i64 c.b):=c.arr_at (by decide);have h1:c.arr[1]? = some (.int .i64 c.d):=c.arr_at (by decide);have h2:c.arr[37]? = some (.int .i64 c.ds):=c.arr_at (by decide);have h3:c.arr[38]? = some (.int .i64 c.ro):=c.arr_at (by decide);have HV:=Lib.hid (show c.Valid↔(0<=c.b/\c.b<=31/\(c.d=0\/c.d=1)/\0<=c.ds/\c.ds<=1073741824/\0<=c.ro/\c.ro<=1073741824)from Iff.rfl);obtain⟨V,hV⟩:=af (decide c.Valid)
 have HD:=Lib.hid (show V=true↔c.Valid from by rw[hV];exact decide_eq_true_iff);obtain⟨Z,hZ⟩:=af c.arr
 rw[<-hV];rw[<-hZ]at h0 h1 h2 h3 ⊢;obtain⟨b,hb⟩:=af c.b
 obtain⟨d,hd⟩:=af c.d
 obtain⟨ds,hds⟩:=af c.ds
 obtain⟨ro,hro⟩:=af c.ro
 rw[<-hb]at h0 HV;rw[<-hd]at h1 HV;rw[<-hds]at h2 HV;rw[<-hro]at h3 HV;clear hZ hV hb hd hds hro;go_enter Tryz.func7,Tryz.ntmps7;go_upto_region 1 with (fail)
 refine ah (fun W=>ae W w.heap.size 25 Z/\Below w.heap.size w W) ⟨ae.new _ _ _,(Below.refl _ w).alloc ay _⟩ ?_;rintro W1 ⟨b1,b2⟩;have x0:=(b1.cell 0).trans h0;have x1:=(b1.cell 1).trans h1;have x2:=(b1.cell 37).trans h2;have x3:=(b1.cell 38).trans h3;have HB:=Lib.hid b2;clear b1 b2 h0 h1 h2 h3;have hout:∀r:Bool,(r=true↔(0<=b/\b<=31/\(d=0\/d=1)/\0<=ds/\ds<=1073741824/\0<=ro/\ro<=1073741824))->r=V:=fun r hr=>by
  rw[Bool.eq_iff_iff,hr,HD.out,HV.out]
 have HO:=Lib.hid hout;clear hout;by_cases c0:0<=b;rotate_left
 ·go_wp2;go_ret
  exact⟨aw (HO.out _ ⟨fun h=>(by cases h),fun h=>(by omega)⟩),HB.out⟩
 by_cases c1:b<=31;rotate_left
 ·go_wp2;go_ret
  exact⟨aw (HO.out _ ⟨fun h=>(by cases h),fun h=>(by omega)⟩),HB.out⟩
 by_cases c2:d=0\/d=1;rotate_left
 ·have d0:(d == 0)=false:=by simp;exact fun h=>c2 (.inl h)
  have d1:(d == 1)=false:=by simp;exact fun h=>c2 (.inr h)
  have HC2:=Lib.hid c2;clear c2;go_wp2;go_ret
  exact⟨aw (HO.out _ ⟨fun h=>(by cases h),fun h=>(absurd h.2.2.1 HC2.out)⟩),HB.out⟩
 by_cases c3:0<=ds;rotate_left
 ·rcases c2 with rfl | rfl
  ·go_wp2;go_ret
   exact⟨aw (HO.out _ ⟨fun h=>(by cases h),fun h=>(by omega)⟩),HB.out⟩
  ·go_wp2;go_ret
   exact⟨aw (HO.out _ ⟨fun h=>(by cases h),fun h=>(by omega)⟩),HB.out⟩
 by_cases c4:ds<=1073741824;rotate_left
 ·rcases c2 with rfl | rfl
  ·go_wp2;go_ret
   exact⟨aw (HO.out _ ⟨fun h=>(by cases h),fun h=>(by omega)⟩),HB.out⟩
  ·go_wp2;go_ret
   exact⟨aw (HO.out _ ⟨fun h=>(by cases h),fun h=>(by omega)⟩),HB.out⟩
 by_cases c5:0<=ro;rotate_left
 ·rcases c2 with rfl | rfl
  ·go_wp2;go_ret
   exact⟨aw (HO.out _ ⟨fun h=>(by cases h),fun h=>(by omega)⟩),HB.out⟩
  ·go_wp2;go_ret
   exact⟨aw (HO.out _ ⟨fun h=>(by cases h),fun h=>(by omega)⟩),HB.out⟩
 by_cases c6:ro<=1073741824
 ·rcases c2 with rfl | rfl
  ·go_wp2;go_ret
   exact⟨aw (HO.out _ ⟨fun h=>⟨by omega,by omega,by simp,by omega,by omega,by omega,by omega⟩,fun h=>rfl⟩),HB.out⟩
  ·go_wp2;go_ret
   exact⟨aw (HO.out _ ⟨fun h=>⟨by omega,by omega,by simp,by omega,by omega,by omega,by omega⟩,fun h=>rfl⟩),HB.out⟩
 ·rcases c2 with rfl | rfl
  ·go_wp2;go_ret
   exact⟨aw (HO.out _ ⟨fun h=>(by cases h),fun h=>(by omega)⟩),HB.out⟩
  ·go_wp2;go_ret
   exact⟨aw (HO.out _ ⟨fun h=>(by cases h),fun h=>(by omega)⟩),HB.out⟩
theorem zJ:Tryz.prog.cellsOf 5 = 1:=by kernel_rfl
theorem xL (f:Nat->Int) (i:Nat) (hi:i < 16) (w:World):(part 5 (aj f) (i*1)).run Tryz.prog w=.ok (.int .u8 (f i)) w:=by
 obtain⟨q,hq,_,hqs,_⟩:=info_parts Tryz.infoByte;have h:=bB f i hi;simp[part,Sem.run_bind,sizeOf,typeInfo,hq,hqs,h]
end Go.Proofs.YtbfpdnnphdagjaaGreat
namespace Go.Proofs.YtbfpdnnphdagjaaGreat
open Go.RowKit
section
variable {P:Program}
theorem SL.srcN {w:World} {e tx e':TypeId} {sz:Nat} (hk:P.underlying tx=some (.slice e')) {A:Option Addr} {n c:Nat} {xs:List Value} (h:SL w e sz A n c xs) (h1:∀u,u∈xs->u.oneCell'=true):Src P sz tx (.slice A n c) n xs w:=by
 have hl:=h.len;rcases h.at_ with ⟨rfl,rfl,rfl⟩ | ⟨b,o,cur,rfl,h2,h3,h4,h5,h6⟩
 ·have:xs=[]:=List.eq_nil_of_length_eq_zero (by rw[hl,Nat.zero_mul]);subst this
  exact Src.ofNil w hk 0
 ·refine Src.ofSlice w hk ⟨b,o,none⟩ n c xs hl (fun j u hu=>?_) h1;have hj:j < n*sz:=by have:=(List.getElem?_eq_some_iff.1 hu).1;rwa [hl]at this
  rw[Addr.add_lit]
  exact(h.cell rfl hj).trans hu
theorem rI (w:World) (t tx ty e:TypeId) (i:TypeInfo) (ht:P.underlying t=some (.slice e)) (hi:P.info? e=some i) {A:Option Addr} {n c:Nat} {xs:List Value} (h:SL w e i.size A n c xs) (x:Value) (hs:Src P i.size tx x 0 [] w) :
  (Builtin.append_ #[t,tx] ty #[.slice A n c,x]).run P w=.ok (.slice A n c) w:=by
 have hroom:n+0<=c:=by have:=h.le;omega
 cases A with
 | some a=>
  rcases h.at_ with ⟨h1,_⟩ | ⟨b,o,cur,h1,_⟩
  ·cases h1
  ·cases h1
   exact run_append_room_src (P:=P) w t tx ty e i ht hi b o n c x 0 [] hs hroom (fun j hj=>(by cases hj)) (fun j hj=>(by cases hj))
 | none=>
  rcases hs.kind with ⟨e',hk⟩ | hk<;>simp[Builtin.append_,run_underlying ht,run_underlying hk,sizeOf,typeInfo,hi,hs.len,show n<=c from hroom,hs.cells]
theorem rE (w:World) (t tx ty e:TypeId) (i:TypeInfo) (z:Value) (sz bytes:Nat) (ht:P.underlying t=some (.slice e)) (hi:P.info? e=some i) (hz:i.zero=some z) (hsize:i.size=sz) (hby:i.bytes=bytes) (hzs:z.cells.size=sz)
  {A:Option Addr} {n c:Nat} {xs:List Value} (h:SL w e sz A n c xs) (x:Value) (m:Nat) (news:List Value) (hs:Src P sz tx x m news w) (h63:n+m<=maxLen) (hbytes:(n+m)*bytes<=140737488355328) :
  ∃A' c' w',(Builtin.append_ #[t,tx] ty #[.slice A n c,x]).run P w=.ok (.slice A' (n+m) c') w'/\SL w' e sz A' (n+m) c' (xs++news)/\aa (fun k=>∃a,A=some a/\k=a.block) w w'/\(∀a,A'=some a->(∃a',A=some a'/\a.block=a'.block)\/w.heap.size<=a.block):=by
 cases m with
 | succ m=>exact jj w t tx ty e i z sz bytes ht hi hz hsize hby hzs h x (m+1) news hs (by omega) h63 hbytes
 | zero=>
  have:news=[]:=List.eq_nil_of_length_eq_zero (by rw[hs.newsLen,Nat.zero_mul]);subst this;subst hsize;refine⟨A,c,w,rI w t tx ty e i ht hi h x hs,by rw[List.append_nil];exact h,aa.refl,fun a ha=>.inl ⟨a,ha,rfl⟩⟩
theorem dN {o:Oper} {a:Act} {K:Act->World->Prop} {Q:Exit->Act->World->Prop} (s x:Operand) (t tx:TypeId) (ho:o.op=.call { callee:=.builtin .append,args:=#[s,x],argTypes:=#[t,tx] })
  (w:World) (e:TypeId) (i:TypeInfo) (z:Value) (sz bytes:Nat) (ht:P.underlying t=some (.slice e)) (hi:P.info? e=some i) (hz:i.zero=some z) (hsize:i.size=sz) (hby:i.bytes=bytes) (hzs:z.cells.size=sz)
  (A:Option Addr) (n c:Nat) (xs:List Value) (hsv:a.eval s=.slice A n c) (h:SL w e sz A n c xs) (xv:Value) (hxv:a.eval x=xv) (m:Nat) (news:List Value) (hs:Src P sz tx xv m news w) (h63:n+m<=maxLen) (hbytes:(n+m)*bytes<=140737488355328)
  (hK:∀A' c' w',SL w' e sz A' (n+m) c' (xs++news)->aa (fun k=>∃a,A=some a/\k=a.block) w w'->(∀a,A'=some a->(∃a',A=some a'/\a.block=a'.block)\/w.heap.size<=a.block)->K (a.put o.dst (.slice A' (n+m) c')) w'):o.wp P a w K Q:=by
 obtain⟨A',c',w',hrun,h1,h2,h3⟩:=rE w t tx o.type e i z sz bytes ht hi hz hsize hby hzs h xv m news hs h63 hbytes;unfold Oper.wp execOp;simp only[ho,resolve,invoke,builtin,Sem.run_bind,Sem.run_pure,Result.andThen_ok,List.map_toArray,List.map_cons,List.map_nil,hsv,hxv,hrun]
 exact hK A' c' w' h1 h2 h3
end
section
variable {P:Program}
end
structure LL (V:World) (B:Nat) (A:Option Addr) (c:Nat) (vs:List SV) (R:Nat->Prop):Prop where
 ex:∃lo:List SE,lo.map (·.v)=vs/\SL V 41 1 A vs.length c (lo.map SE.val)/\∀x,x∈lo->bZ V R x.A x.v.n x.c x.v.z
 blk:∀a,A=some a->B<=a.block/\¬R a.block
section
variable {V V':World} {B:Nat} {A A':Option Addr} {c c':Nat} {vs:List SV} {R R' F:Nat->Prop}
theorem LL.keep (h:LL V B A c vs R) (hk:aa F V V') (h1:∀k,F k->¬R k) (h2:∀a,A=some a->¬F a.block):LL V' B A c vs R:=by
 obtain⟨⟨lo,e1,e2,e3⟩,hb⟩:=h
 exact⟨⟨lo,e1,e2.keepF hk h2,fun x hx=>(e3 x hx).keep hk h1⟩,hb⟩
theorem LL.below (h:LL V B A c vs R) (hb:Below V.heap.size V V'):LL V' B A c vs R:=by
 refine h.keep (aa.of_below (F:=fun _=>False) hb) (fun k hk=>hk.elim) (fun a ha hk=>hk.elim)
theorem LL.lt (h:LL V B A c vs R) {a:Addr} (ha:A=some a):a.block < V.heap.size:=by
 obtain⟨⟨lo,e1,e2,e3⟩,hb⟩:=h
 exact e2.lt ha
theorem LL.more (h:LL V B A c vs R) (h1:∀k,R k->R' k) (h2:∀a,A=some a->¬R' a.block):LL V B A c vs R':=by
 obtain⟨⟨lo,e1,e2,e3⟩,hb⟩:=h
 exact⟨⟨lo,e1,e2,fun x hx=>⟨(e3 x hx).pos,(e3 x hx).max,(e3 x hx).cap,(e3 x hx).byte,(e3 x hx).row,fun a ha=>h1 _ ((e3 x hx).ro a ha)⟩⟩,fun a ha=>⟨(hb a ha).1,h2 a ha⟩⟩
theorem LL.at_ (h:LL V B A c vs R) {k:Nat} {v:SV} (hv:vs[k]? = some v):∃(b o:Nat) (x:Option Addr×Nat),A=some ⟨b,o,none⟩/\b < V.heap.size/\V.cell? ⟨b,o+k,none⟩=some (.slice x.1 v.n x.2)/\bZ V R x.1 v.n x.2 v.z:=by
 obtain⟨⟨lo,e1,e2,e3⟩,hb⟩:=h;have hk:k < vs.length:=(List.getElem?_eq_some_iff.1 hv).1;obtain⟨b,o,hA,hlt⟩:=e2.some_ (by omega);have hl:lo.length=vs.length:=by rw[<-e1,List.length_map]
 have hx:lo[k]? = some lo[k]:=List.getElem?_eq_getElem (by omega);have hvv:lo[k].v=v:=by
  have:(lo.map (·.v))[k]? = some lo[k].v:=by rw[List.getElem?_map,hx];rfl
  rw[e1,hv]at this
  exact(Option.some.inj this).symm
 have hc:=e2.cell hA (j:=k) (by omega);rw[List.getElem?_map,hx]at hc;have hp:=e3 lo[k] (List.getElem_mem (by omega));rw[hvv]at hp
 exact⟨b,o,(lo[k].A,lo[k].c),hA,hlt,by rw[hc,<-hvv];rfl,hp⟩
theorem LL.push (h:LL V B A c vs R) (hR:∀k,R k->k < V.heap.size) (hB:B<=V.heap.size) {lo ls:List SE} (e1:lo.map (·.v)=vs) (e3:∀x,x∈lo->bZ V R x.A x.v.n x.c x.v.z) (hl:∀x,x∈ls->bZ V R x.A x.v.n x.c x.v.z)
  (hs:SL V' 41 1 A' (vs.length+ls.length) c' (lo.map SE.val++ls.map SE.val)) (hk:aa (fun k=>∃a,A=some a/\k=a.block) V V') (ha:∀a,A'=some a->(∃a',A=some a'/\a.block=a'.block)\/V.heap.size<=a.block):LL V' B A' c' (vs++ls.map (·.v)) R:=by
 refine⟨⟨lo++ls,by rw[List.map_append,e1],by rw[List.length_append,List.length_map,List.map_append];exact hs,fun x hx=>?_⟩,fun a e=>?_⟩
 ·have hf:∀k,(∃a,A=some a/\k=a.block)->¬R k:=fun k ⟨a,e,hk⟩=>by rw[hk];exact(h.blk a e).2
  rcases List.mem_append.1 hx with hx | hx
  ·exact(e3 x hx).keep hk hf
  ·exact(hl x hx).keep hk hf
 ·rcases ha a e with ⟨a',e',hb⟩ | hb
  ·rw[hb];exact h.blk a' e'
  ·exact⟨a9 hB hb,fun hr=>by have:=hR _ hr;omega⟩
end
end Go.Proofs.YtbfpdnnphdagjaaGreat
namespace Go.Proofs.YtbfpdnnphdagjaaGreat
open Go.ChangeShapes Go.WideShapes Go.ChangeAt Go.RowKit
def rU:Option Value->Int
 | some (.int _ a)=>a
 | _=>0
section
variable {H:Type} {enc:TypeId×Value->H} {w:World} {base:Nat} {spare:Nat->Bool} {held:Bool}
theorem uS {fuel:Nat} {L:List Value} {x:DataW H×List MemPlace} (h:DataW.trod enc Tryz.prog w base spare held fuel 23 L=some x) :
  ∃f:Nat->Int,(∀j,j < 16->L[j]? = some (.int .u8 (f j)))/\∀j,j < 16->0<=f j/\f j < 256:=by
 obtain⟨xs,m,_,_,_,hx,hel⟩:=DataW.trod_array Tryz.underlying23 h;have c5:Tryz.prog.cellsOf 5 = 1:=by kernel_rfl
 have key:∀j,j < 16->∃a,L[j]? = some (.int .u8 a)/\0<=a/\a < 256:=fun j hj=>by
  have h1:=hel j hj;rw[c5,Nat.mul_one,List.getElem?_eq_getElem (by omega)]at h1;obtain⟨a,e,_,hw⟩:=DataW.trod_int Tryz.underlying5 h1;have h2:=congrArg List.head? e;simp[List.head?_take]at h2;have hb:=bounds_u8 hw
  exact⟨a,h2,hb.1,by omega⟩
 refine⟨fun j=>rU L[j]?,fun j hj=>?_,fun j hj=>?_⟩
 ·obtain⟨a,e,_⟩:=key j hj;simp only[e,rU]
 ·obtain⟨a,e,hb⟩:=key j hj;simp only[e,rU]
  exact hb
theorem vg {r:Reach} {b0:Nat} {v:Value} {d:DataW H} {p:List MemPlace}
  (hv:Value.okWide Tryz.prog w r b0 25 v) (h:DataW.Trod enc Tryz.prog w base spare held 25 v d p):∃c:ax,v=.agg c.arr/\c.Ok:=by
 obtain⟨cs,rfl,hsz⟩:=okWide_struct Tryz.underlying25 hv;have hc:Tryz.prog.cellsOf 25 = 39:=by kernel_rfl
 have h9:cs.size=39:=hsz.trans hc;obtain⟨fuel,hf⟩:=h;obtain⟨xs,n,_,_,_,hlen,hg⟩:=DataW.trod_struct Tryz.underlying25 hf;have c3:Tryz.prog.cellsOf 3 = 1:=by kernel_rfl
 have c22:Tryz.prog.cellsOf 22 = 1:=by kernel_rfl
 have c4:Tryz.prog.cellsOf 4 = 1:=by kernel_rfl
 have c16:Tryz.prog.cellsOf 23 = 16:=by kernel_rfl
 have hx9:xs.length=9:=hlen;have keyi:∀(i o:Nat) (ty:TypeId),Tryz.prog.underlying ty=some (.int .i64)->i < 9->DataW.trod enc Tryz.prog w base spare held n ty (List.take 1 (List.drop o (Value.agg cs).cells.toList))=xs[i]?->∃a,cs[o]? = some (Value.int .i64 a):=by
  intro i o ty hu hi h1;rw[List.getElem?_eq_getElem (by omega)]at h1;obtain⟨a,e,_,_⟩:=DataW.trod_int hu h1;refine⟨a,?_⟩;have h2:=congrArg List.head? e;simp[Value.cells,List.head?_take]at h2
  exact h2
 have keyb:∀(i o:Nat),i < 9->DataW.trod enc Tryz.prog w base spare held n 4 (List.take 1 (List.drop o (Value.agg cs).cells.toList))=xs[i]?->∃a,cs[o]? = some (Value.bool a):=by
  intro i o hi h1;rw[List.getElem?_eq_getElem (by omega)]at h1;obtain⟨a,e,_⟩:=DataW.trod_bool Tryz.underlying4 h1;refine⟨a,?_⟩;have h2:=congrArg List.head? e;simp[Value.cells,List.head?_take]at h2
  exact h2
 have keya:∀(i o:Nat),i < 9->DataW.trod enc Tryz.prog w base spare held n 23 (List.take 16 (List.drop o (Value.agg cs).cells.toList))=xs[i]?->∃f:Nat->Int,(∀j,j < 16->cs[o+j]? = some (.int .u8 (f j)))/\∀j,j < 16->0<=f j/\f j < 256:=by
  intro i o hi h1;rw[List.getElem?_eq_getElem (by omega)]at h1;obtain⟨f,e,hb⟩:=uS h1;refine⟨f,fun j hj=>?_,hb⟩;have:=e j hj;rw[List.getElem?_take,if_pos hj,List.getElem?_drop]at this;simpa[Value.cells]using this
 obtain⟨a0,e0⟩:=keyi 0 0 3 Tryz.underlying3 (by decide) (by have h1:DataW.trod enc Tryz.prog w base spare held n 3 (List.take (Tryz.prog.cellsOf 3) (List.drop 0 (Value.agg cs).cells.toList))=xs[0]?:=hg 0 _ rfl;rwa [c3]at h1);obtain⟨a1,e1⟩:=keyi 1 1 22 Tryz.underlying22 (by decide) (by have h1:DataW.trod enc Tryz.prog w base spare held n 22 (List.take (Tryz.prog.cellsOf 22) (List.drop 1 (Value.agg cs).cells.toList))=xs[1]?:=hg 1 _ rfl;rwa [c22]at h1);obtain⟨a2,e2,r2⟩:=keya 2 2 (by decide) (by have h1:DataW.trod enc Tryz.prog w base spare held n 23 (List.take (Tryz.prog.cellsOf 23) (List.drop 2 (Value.agg cs).cells.toList))=xs[2]?:=hg 2 _ rfl;rwa [c16]at h1);obtain⟨a3,e3,r3⟩:=keya 3 18 (by decide) (by have h1:DataW.trod enc Tryz.prog w base spare held n 23 (List.take (Tryz.prog.cellsOf 23) (List.drop 18 (Value.agg cs).cells.toList))=xs[3]?:=hg 3 _ rfl;rwa [c16]at h1);obtain⟨a4,e4⟩:=keyb 4 34 (by decide) (by have h1:DataW.trod enc Tryz.prog w base spare held n 4 (List.take (Tryz.prog.cellsOf 4) (List.drop 34 (Value.agg cs).cells.toList))=xs[4]?:=hg 4 _ rfl;rwa [c4]at h1);obtain⟨a5,e5⟩:=keyb 5 35 (by decide) (by have h1:DataW.trod enc Tryz.prog w base spare held n 4 (List.take (Tryz.prog.cellsOf 4) (List.drop 35 (Value.agg cs).cells.toList))=xs[5]?:=hg 5 _ rfl;rwa [c4]at h1);obtain⟨a6,e6⟩:=keyb 6 36 (by decide) (by have h1:DataW.trod enc Tryz.prog w base spare held n 4 (List.take (Tryz.prog.cellsOf 4) (List.drop 36 (Value.agg cs).cells.toList))=xs[6]?:=hg 6 _ rfl;rwa [c4]at h1);obtain⟨a7,e7⟩:=keyi 7 37 3 Tryz.underlying3 (by decide) (by have h1:DataW.trod enc Tryz.prog w base spare held n 3 (List.take (Tryz.prog.cellsOf 3) (List.drop 37 (Value.agg cs).cells.toList))=xs[7]?:=hg 7 _ rfl;rwa [c3]at h1);obtain⟨a8,e8⟩:=keyi 8 38 3 Tryz.underlying3 (by decide) (by have h1:DataW.trod enc Tryz.prog w base spare held n 3 (List.take (Tryz.prog.cellsOf 3) (List.drop 38 (Value.agg cs).cells.toList))=xs[8]?:=hg 8 _ rfl;rwa [c3]at h1);obtain⟨c,hcd⟩:∃c:ax,c=⟨a0,a1,a2,a3,a4,a5,a6,a7,a8⟩:=⟨_,rfl⟩
 refine⟨c,?_,by rw[hcd];exact⟨r2,r3⟩⟩;have:cs=c.arr:=by
  apply Array.ext_getElem?;intro i;by_cases hi:i < 39
  ·rw[c.arr_at hi,hcd];unfold ax.cell;rcases (by omega:i=0\/i=1\/(2<=i/\i < 18)\/(18<=i/\i < 34)\/i=34\/i=35\/i=36\/i=37\/i=38)with rfl | rfl | h | h | rfl | rfl | rfl | rfl | rfl
   ·exact e0
   ·exact e1
   ·rw[if_neg (by omega),if_neg (by omega),if_pos (by omega)];have:=e2 (i-2) (by omega)
    rwa [show 2+(i-2)=i by omega]at this
   ·rw[if_neg (by omega),if_neg (by omega),if_neg (by omega),if_pos (by omega)];have:=e3 (i-18) (by omega)
    rwa [show 18+(i-18)=i by omega]at this
   ·exact e4
   ·exact e5
   ·exact e6
   ·exact e7
   ·exact e8
  ·rw[Array.getElem?_eq_none (by omega),Array.getElem?_eq_none (by rw[c.arr_size];omega)]
 rw[this]
end
end Go.Proofs.YtbfpdnnphdagjaaGreat

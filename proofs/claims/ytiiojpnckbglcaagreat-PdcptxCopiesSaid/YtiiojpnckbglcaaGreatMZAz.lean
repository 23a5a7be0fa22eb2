import Derived.Test.YtiiojpnckbglcaaGreatMTBz
import Derived.Test.YtiiojpnckbglcaaGreatMVSz
import Derived.Test.YtiiojpnckbglcaaGreatMVMz
import Derived.Lib.SlBytesConst
import Derived.Test.YtiiojpnckbglcaaGreatB1z
set_option maxRecDepth 100000
set_option maxHeartbeats 3200000
set_option linter.unusedVariables false
set_option linter.unusedSimpArgs false
namespace Go.Proofs.YtiiojpnckbglcaaGreat
open Go.RowKit
def nf (f:Nat->Int):Nat->Nat:=fun j=>(f j).toNat
theorem bO {f:Nat->Int} {n:Nat} (h:∀j,j < n->0<=f j/\f j < 256) {j:Nat} (hj:j < n):((nf f j:Nat):Int)=f j:=Int.toNat_of_nonneg (h j hj).1
theorem eH {f:Nat->Int} {n:Nat} (h:∀j,j < n->0<=f j/\f j < 256) {j:Nat} (hj:j < n):nf f j < 256:=by
 have:=h j hj;unfold nf;omega
def gi (ct:Nat):Nat->Nat:=fun j=>if j=0 then 128+ct / 256 % 16 else ct % 256
theorem ka (ct j:Nat):gi ct j < 256:=by unfold gi;split<;>omega
def fi (v j:Nat):Nat:=v / 2 ^ (24-8*j) % 256
theorem pZ (v j:Nat):fi v j < 256:=Nat.mod_lt _ (by decide)
def i5 (cf:aP) (n:Nat):Nat:=if cf.ig=true then n+4 else n
def eo (cf:aP) (ct n:Nat) (z:Nat->Nat):Nat->Nat:=bQ z n (fi (fJ (nf cf.code) ct cf.b.toNat cf.d.toNat (bQ (gi ct) 2 z) (2+n)))
theorem jC {cf:aP} {ct n:Nat} {z:Nat->Nat} (hz:∀j,j < n->z j < 256) (j:Nat):eo cf ct n z j < 256:=by
 unfold eo bQ
 split
 ·exact hz _ (by assumption)
 ·exact pZ _ _
def aZ (cf:aP) (n:Nat):Nat:=2+i5 cf n
def cA (cf:aP) (ct n:Nat) (z:Nat->Nat):Nat->Nat:=bQ (gi ct) 2 (ir (nf cf.key) ct cf.b.toNat cf.d.toNat (eo cf ct n z))
def TS.gone (s:TS) (n:Int) (q:QV):Bool:=decide (0 < s.C.ds) && decide (s.C.ds<=n-q.at_)
def TS.tick (s:TS) (t:Int):TS:={ s with now:=max s.now t,Q:=s.Q.filter (fun q=>!s.gone (max s.now t) q) }
structure TS.Fine (s:TS):Prop where
 ok:s.C.Ok
 val:s.C.Valid
 at_:∀q,q∈s.Q->0<=q.at_/\q.at_<=s.now
theorem TS.Fine.tick {s:TS} (h:s.Fine) (t:Int):(s.tick t).Fine:=
 ⟨h.ok,h.val,fun q hq=>by
  have:=h.at_ q (List.mem_filter.1 hq).1;show 0<=q.at_/\q.at_<=max s.now t;omega⟩
theorem TS.tick_len (s:TS) (t:Int):(s.tick t).Q.length<=s.Q.length:=List.length_filter_le _ _
def TS.submit (s:TS) (t:Int) (n:Nat) (z:Nat->Int):Int×TS:=
 if 1073741824<=t then (2,s) else if n=0 then (5,s.tick t) else if 9000 < n then (4,s.tick t) else (0,{ s.tick t with Q:=(s.tick t).Q++[⟨n,z,max s.now t⟩] })
theorem TS.Fine.submit {s:TS} (h:s.Fine) (hn:0<=s.now) (t:Int) (n:Nat) (z:Nat->Int):(s.submit t n z).2.Fine:=by
 unfold TS.submit;have ht:=h.tick t
 split
 ·exact h
 ·split
  ·exact ht
  ·split
   ·exact ht
   ·refine⟨h.ok,h.val,fun q hq=>?_⟩;rcases List.mem_append.1 hq with hq | hq
    ·exact ht.at_ q hq
    ·rw[List.mem_singleton.1 hq];show 0<=max s.now t/\max s.now t<=max s.now t;omega
def az:List PV->Option (Nat×PV)
 | []=>none
 | p :: r=>if p.rep=true then some (0,p) else (az r).map fun x=>(x.1+1,x.2)
def TS.full (s:TS):Bool:=match s.P with | []=>false | p :: _=>decide (2048<=(s.next-p.ct) % 18446744073709551616)
structure NX where
 n:Nat
 z:Nat->Nat
 ct:Int
 e:Int
 s:TS
def TS.send (s:TS) (t:Int):NX:=
 if 1073741824<=t then ⟨0,zB,0,2,s⟩ else
 match az s.P with
 | some (i,p)=>⟨aZ s.C p.n,cA s.C p.ct.toNat p.n (nf p.z),p.ct,0,{ s.tick t with P:=s.P.set i { p with rep:=false } }⟩
 | none=>
  match (s.tick t).Q with
  | []=>⟨0,zB,0,10,s.tick t⟩
  | q :: r=>
   if s.next=4294967296 then ⟨0,zB,0,460,s.tick t⟩ else
   if s.full=true then ⟨0,zB,0,7,s.tick t⟩ else
   ⟨aZ s.C q.n,cA s.C s.next.toNat q.n (nf q.z),s.next,0,{ s.tick t with Q:=r,next:=s.next+1,P:=if s.C.ac=true then s.P++[⟨s.next,q.n,q.z,false⟩] else s.P }⟩
section
variable {P:Program}
theorem iq (w:World) (t e ty:TypeId) (z:Value) (ht:P.underlying t=some (.slice e)) (hv:∀w,(zeroValue e).run P w=.ok z w) (h1:∀v,v∈z.cells->v.oneCell'=true) (b o m c:Nat)
  (hc:∀j,j < m*z.cells.size->(w.cell? ⟨b,o+j,none⟩).isSome=true) (hf:∀j,j < m*z.cells.size->w.frozen? ⟨b,o+j,none⟩=false) :
  (Builtin.clear_ #[t] ty #[.slice (some ⟨b,o,none⟩) m c]).run P w=.ok (.tuple #[]) (w.setCells b o (Builtin.zeroCells z.cells m).toList):=by
 have hlen:(Builtin.zeroCells z.cells m).toList.length=m*z.cells.size:=by simp[Builtin.zeroCells]
 have hst:=run_storeCells_cells (P:=P) b o (Builtin.zeroCells z.cells m).toList 0 w (by rw[hlen];simpa using hc) (by rw[hlen];simpa using hf) (fun v hv=>by
  simp only[Builtin.zeroCells,Array.toList_map,List.mem_map,Array.mem_toList_iff,Array.mem_range]at hv;obtain⟨i,hi,rfl⟩:=hv;have hpos:0 < z.cells.size:=by
   rcases Nat.eq_zero_or_pos z.cells.size with h0 | h0
   ·rw[h0]at hi;simp at hi
   ·exact h0
  have hlt:i % z.cells.size < z.cells.size:=Nat.mod_lt _ hpos;rw[getElem!_pos z.cells (i % z.cells.size) hlt]
  exact h1 _ (Array.getElem_mem hlt))
 simp only[Nat.add_zero]at hst
 cases m with
 | zero=>simp[Builtin.clear_,run_underlying ht,Builtin.zeroCells,World.setCells]
 | succ m=>simp[Builtin.clear_,run_underlying ht,hv,hst]
end
theorem iI {α:Type} (f:α->List Value) (sz:Nat) (hf:∀x,(f x).length=sz) (l:List α) (k:Nat) (hk:k < l.length) (x:α) (j:Nat) :
  ((l.set k x).flatMap f)[j]? = if k*sz<=j/\j < k*sz+sz then (f x)[j-k*sz]? else (l.flatMap f)[j]?:=by
 rcases Nat.eq_zero_or_pos sz with h0 | hp
 ·subst h0;have hnil:∀l:List α,l.flatMap f=[]:=fun l=>List.eq_nil_of_length_eq_zero (by rw[cj f 0 hf];simp);rw[hnil,hnil];rw[if_neg (by omega)]
 ·have hj:=Nat.div_add_mod j sz;have hm:=Nat.mod_lt j hp;have hje:j=j / sz*sz+j % sz:=by rw[Nat.mul_comm];omega
  by_cases hjl:j / sz < l.length
  ·have e1:=be f sz hf (l.set k x) (j / sz) (j % sz);have e2:=be f sz hf l (j / sz) (j % sz);rw[<-hje]at e1 e2;by_cases hkj:j / sz=k
   ·rw[e1 x (by rw[hkj,List.getElem?_set_self hk]) hm,if_pos ⟨by rw[<-hkj];omega,by rw[<-hkj];omega⟩,show j-k*sz=j % sz by rw[<-hkj];omega]
   ·have hne:¬(k*sz<=j/\j < k*sz+sz):=fun⟨h1,h2⟩=>hkj (by
     exact Nat.div_eq_of_lt_le (m:=j) (n:=sz) (k:=k) h1 (by rw[Nat.add_mul];omega))
    rw[if_neg hne,e1 (l[j / sz]) (by rw[List.getElem?_set_ne (fun e=>hkj e.symm),List.getElem?_eq_getElem hjl]) hm,e2 (l[j / sz]) (List.getElem?_eq_getElem hjl) hm]
  ·have hge:l.length*sz<=j:=by
    have:=Nat.mul_le_mul_right sz (show l.length<=j / sz by omega);omega
   have hk2:(k+1)*sz<=l.length*sz:=Nat.mul_le_mul_right _ hk;rw[Nat.add_mul]at hk2;rw[if_neg (by omega),List.getElem?_eq_none (by rw[cj f sz hf,List.length_set];exact hge),List.getElem?_eq_none (by rw[cj f sz hf];exact hge)]
theorem SL.setAt {α:Type} {f:α->List Value} {w:World} {e:TypeId} {sz:Nat} (hf:∀x,(f x).length=sz) {b o n c:Nat} {l:List α} (h:SL w e sz (some ⟨b,o,none⟩) n c (l.flatMap f)) (k:Nat) (hk:k < n) (x:α) :
  SL (w.setCells b (o+k*sz) (f x)) e sz (some ⟨b,o,none⟩) n c ((l.set k x).flatMap f):=by
 have hln:l.length*sz=n*sz:=by rw[<-h.len,cj f sz hf]
 rcases h.at_ with ⟨h1,h2,h3⟩ | ⟨b',o',cur,h1,h2,h3,h4,h5,h6⟩
 ·cases h1
 cases h1
 have hks:(k+1)*sz<=n*sz:=Nat.mul_le_mul_right _ hk;have hcs:n*sz<=c*sz:=Nat.mul_le_mul_right _ h3;rw[Nat.add_mul]at hks;refine⟨by rw[cj f sz hf,List.length_set,hln],.inr ⟨b,o,_,rfl,bm (f x) _ w cur h2,h3,h4,by rw[a9];exact h5,fun j hj=>?_⟩⟩;rcases Nat.eq_zero_or_pos sz with h0 | hp
 ·subst h0;simp at hj
 have hkl:k < l.length:=by
  rcases Nat.lt_or_ge k l.length with h | h
  ·exact h
  ·have:=Nat.mul_le_mul_right sz h;omega
 rw[iI f sz hf l k hkl];by_cases hin:k*sz<=j/\j < k*sz+sz
 ·rw[if_pos hin];have:=cy (f x) (o+k*sz) cur (j-k*sz) (by rw[hf];omega) (by omega)
  rwa [show o+k*sz+(j-k*sz)=o+j by omega]at this
 ·rw[if_neg hin,bw _ _ _ _ (by rw[hf];omega),h6 j hj]
end Go.Proofs.YtiiojpnckbglcaaGreat
namespace Go.Proofs.YtiiojpnckbglcaaGreat
open Go.RowKit
attribute [local go_sem ↓] Go.wp_at_zero Go.wp_at_succ
structure DL {α:Type} (l:List α) (p:α->Bool) (j i:Nat) (L:List α):Prop where
 len:L.length=l.length
 ij:i<=j
 jl:j<=l.length
 pre:L.take i=(l.take j).filter (fun x=>!p x)
 rest:∀k,j<=k->L[k]? = l[k]?
theorem DL.start {α:Type} {l:List α} {p:α->Bool} {i:Nat} {x:α} (hx:l[i]? = some x) (hp:p x=true) (hno:∀k,k < i->∀y,l[k]? = some y->p y=false):DL l p (i+1) i l:=by
 have hil:i < l.length:=(List.getElem?_eq_some_iff.1 hx).1;have hxe:l[i] = x:=(List.getElem?_eq_some_iff.1 hx).2;refine⟨rfl,by omega,hil,?_,fun _ _=>rfl⟩;rw[List.take_succ_eq_append_getElem hil,List.filter_append,hxe];have:(l.take i).filter (fun x=>!p x)=l.take i:=List.filter_eq_self.2 fun y hy=>by
  obtain⟨k,hk,rfl⟩:=List.mem_iff_getElem.1 hy;have hk2:k < i:=by simp at hk;omega
  rw[List.getElem_take];simp[hno k hk2 l[k] (List.getElem?_eq_getElem (by omega))]
 rw[this];simp[hp]
theorem DL.keep {α:Type} {l L:List α} {p:α->Bool} {j i:Nat} {x:α} (h:DL l p j i L) (hx:l[j]? = some x) (hp:p x=false):DL l p (j+1) (i+1) (L.set i x):=by
 have hjl:j < l.length:=(List.getElem?_eq_some_iff.1 hx).1;have hxe:l[j] = x:=(List.getElem?_eq_some_iff.1 hx).2;have hij:=h.ij;have hlen:=h.len;refine⟨by simp[h.len],by omega,by omega,?_,fun k hk=>?_⟩
 ·rw[List.take_succ_eq_append_getElem hjl,List.filter_append,hxe,<-h.pre,List.take_succ_eq_append_getElem (by simp;omega)];simp[hp,List.take_set_of_le]
 ·rw[List.getElem?_set_ne (by omega)]
  exact h.rest k (by omega)
theorem DL.drop {α:Type} {l L:List α} {p:α->Bool} {j i:Nat} {x:α} (h:DL l p j i L) (hx:l[j]? = some x) (hp:p x=true):DL l p (j+1) i L:=by
 have hjl:j < l.length:=(List.getElem?_eq_some_iff.1 hx).1;have hxe:l[j] = x:=(List.getElem?_eq_some_iff.1 hx).2;have hij:=h.ij;refine⟨h.len,by omega,by omega,?_,fun k hk=>h.rest k (by omega)⟩;rw[List.take_succ_eq_append_getElem hjl,List.filter_append,hxe,<-h.pre];simp[hp]
theorem DL.done {α:Type} {l L:List α} {p:α->Bool} {i:Nat} (h:DL l p l.length i L):L.take i=l.filter (fun x=>!p x):=by
 have:=h.pre
 rwa [List.take_length]at this
theorem eh (p:Nat->Bool) (n:Nat):(∃i,i < n/\ap p 0 n=(i:Int)/\p i=true/\∀j,j < i->p j=false)\/(ap p 0 n = -1/\∀j,j < n->p j=false):=by
 have:∀d k,k+d=n->(∀j,j < k->p j=false)->(∃i,i < n/\ap p k d=(i:Int)/\p i=true/\∀j,j < i->p j=false)\/(ap p k d = -1/\∀j,j < n->p j=false):=by
  intro d
  induction d with
  | zero=>intro k h1 h2;exact .inr ⟨rfl,fun j hj=>h2 j (by omega)⟩
  | succ d ih=>
   intro k h1 h2;rw[ap];by_cases hk:p k=true
   ·rw[if_pos hk]
    exact .inl ⟨k,by omega,rfl,hk,h2⟩
   ·rw[if_neg hk];refine ih (k+1) (by omega) (fun j hj=>?_);by_cases hjk:j=k
    ·subst hjk;simpa using hk
    ·exact h2 j (by omega)
 exact this n 0 (by omega) (fun j hj=>absurd hj (by omega))
def sE (ds n a:Int):Bool:=decide (0 < ds) && decide (ds<=n-a)
theorem po (ds n a:Int) (h1:0<=ds/\ds<=1073741824) (h2:0<=a/\a<=n) (h3:n < 1073741824) (A:Option Addr) (m c g tb:Nat) (w:World) (x0:w.cell? ⟨tb,0,none⟩=some (.pointer (some ⟨g,0,none⟩))) (x1:w.cell? ⟨g,37,none⟩=some (.int .i64 ds)) (x2:w.cell? ⟨g,40,none⟩=some (.int .i64 n)) (l1:tb < w.heap.size) (l2:g < w.heap.size) :
  Calls Tryz.prog 82 #[.agg #[.slice A m c,.int .i64 a],.pointer (some ⟨tb,0,none⟩)] w fun e w'=>e=.returned (.bool (sE ds n a))/\Below w.heap.size w w':=by
 have HG:=zh (show sE ds n a=(decide (0 < ds) && decide (ds<=n-a))from rfl);go_enter Tryz.func82,Tryz.ntmps82;go_upto_region 1 with (fail)
 refine ah (fun V=>V.cell? ⟨w.heap.size,1,none⟩=some (.int .i64 a)/\V.cell? ⟨tb,0,none⟩=some (.pointer (some ⟨g,0,none⟩))/\V.cell? ⟨g,37,none⟩=some (.int .i64 ds)/\V.cell? ⟨g,40,none⟩=some (.int .i64 n)/\Below w.heap.size w V) ⟨(ae.new _ _ _).cell 1,Lib.cell?_alloc_some _ x0,Lib.cell?_alloc_some _ x1,Lib.cell?_alloc_some _ x2,(Below.refl _ w).alloc aB _⟩ ?_;rintro W1 ⟨y,y0,y1,y2,b1⟩;have B1:=zh b1;obtain⟨bb,hbb⟩:=af w.heap.size
 rw[<-hbb]at y B1 ⊢;have HBB:=zh hbb;clear x0 x1 x2 b1 hbb;have s1:-9223372036854775808<=n-a:=by omega
 have s2:n-a<=9223372036854775807:=by omega
 by_cases c0:0 < ds
 ·have d0:decide (0 < ds)=true:=decide_eq_true c0;by_cases c1:ds<=n-a
  ·have d1:decide (ds<=n-a)=true:=decide_eq_true c1;go_quiet (fail);go_wp2;go_ret
   exact⟨aL (by rw[HG.out,d0,d1];first | rfl | simp[*]),by rw[<-HBB.out];exact an B1.out _⟩
  ·have d1:decide (ds<=n-a)=false:=decide_eq_false c1;go_quiet (fail);go_wp2;go_ret
   exact⟨aL (by rw[HG.out,d0,d1];first | rfl | simp[*]),by rw[<-HBB.out];exact an B1.out _⟩
 ·have d0:decide (0 < ds)=false:=decide_eq_false c0;go_quiet (fail);go_wp2;go_ret
  exact⟨aL (by rw[HG.out,d0];first | rfl | simp[*]),by rw[<-HBB.out];exact an B1.out _⟩
def iM (lq:List WE) (p:WE->Bool) (k:Nat):Bool:=match lq[k]? with | some e=>p e | none=>false
def p8 (p:WE->Bool) (tb:Nat) (lq:List WE) (W:World):Prop:=∀e,e∈lq->Calls Tryz.prog 82 #[.agg #[.slice e.A e.v.n e.c,.int .i64 e.v.at_],.pointer (some ⟨tb,0,none⟩)] W fun x w'=>x=.returned (.bool (p e))/\Below W.heap.size W w'
theorem oz (A:Option Addr) (n c:Nat) (lq:List WE) (hn:n=lq.length) (p:WE->Bool) (tb:Nat) (w:World) (h:SL w 96 2 A n c (lq.flatMap WE.cells)) (hx:∀W,Below w.heap.size w W->p8 p tb lq W) :
  Calls Tryz.prog 105 #[.slice A n c,.func (.func 82) #[] #[.pointer (some ⟨tb,0,none⟩)]] w fun e w'=>e=.returned (.int .i64 (ap (iM lq p) 0 n))/\Below w.heap.size w w':=by
 have hcm:=h.cmax;have hle:=h.le;unfold maxLen at hcm;have HSL:=zh h;have HX:=zh hx;obtain⟨F,hF⟩:=af (iM lq p)
 have HF0:=zh hF;have HN:=zh hn;rw[<-hF];clear h hx hF hn;go_enter Tryz.func105,Tryz.ntmps105;go_wp2;go_loopw [8] (fun v wr=>∃k:Nat,k<=n/\v=.int .i64 k/\ap F 0 n=ap F k (n-k)/\Below w.heap.size w wr) (fun v _=>n-(intOf v).toNat)
 case atStart=>exact⟨0,by omega,rfl,rfl,Below.refl _ _⟩
 case round=>
  obtain⟨k,hk,rfl,hfw,hb⟩:=hrel;have HF:=zh hfw;have HB:=zh hb;clear hfw hb;by_cases hlt2:k < n
  ·obtain⟨e0,he0⟩:∃e0,lq[k]? = some e0:=⟨lq[k]'(by have:=HN.out;omega),by simp[HN.out ▸ hlt2]⟩
   have hS:=HSL.out.next HB.out;obtain⟨b,o,hA,hbl⟩:=hS.some_ (by omega);have c0:=hS.cell hA (j:=k*2+0) (by omega);have c1:=hS.cell hA (j:=k*2+1) (by omega);rw[be WE.cells 2 WE.len lq k _ e0 he0 (by omega)]at c0 c1;have hFk:F k=p e0:=by rw[HF0.out];unfold iM;rw[he0]
   have HC:=zh (HX.out wr HB.out e0 (List.mem_of_getElem? he0));simp only[WE.cells,List.getElem?_cons_zero,List.getElem?_cons_succ,Nat.add_zero]at c0 c1;have HST:=zh (dC F k n hlt2);obtain⟨bb,hbb⟩:=af (p e0)
   rw[<-hbb]at HC hFk;have HFk:=zh hFk;subst hA;clear hbb hFk hS he0;have k0:(0:Int)<=(k:Int):=by omega
   have k1:(k:Int) < (n:Int):=by omega
   rw[<-Nat.add_assoc]at c1
   cases bb
   ·have HS2:=zh (HST.out.trans (if_neg (by rw[HFk.out];decide)));go_wp2_with (go_at_call 82;refine(HC.out).mono ?_;rintro e w2 ⟨rfl,hB2⟩;have HB2:=zh (HB.out.trans (hB2.mono HB.out.size));clear hB2);go_roundw
    case rel=>exact⟨k+1,by omega,by go_num,by rw[HF.out,HS2.out],HB2.out⟩
    case measure=>simp[intOf];omega
   ·have HS2:=zh (HST.out.trans (if_pos HFk.out));go_wp2_with (go_at_call 82;refine(HC.out).mono ?_;rintro e w2 ⟨rfl,hB2⟩;have HB2:=zh (HB.out.trans (hB2.mono HB.out.size));clear hB2);go_ret
    exact⟨cZ (by rw[HF.out,HS2.out]),HB2.out⟩
  ·obtain rfl:k=n:=by omega
   have HF2:=zh (show ap F 0 k = -1 by rw[HF.out,Nat.sub_self];rfl);clear HF;go_wp2;go_ret
   exact⟨cZ HF2.out.symm,HB.out⟩
theorem nZ (w:World):(zeroValue 96).run Tryz.prog w=.ok (.agg #[.slice none 0 0,.int .i64 0]) w:=by kernel_rfl
theorem mM (lq:List WE) (k:Nat):(lq.flatMap WE.cells).take (k*2)=(lq.take k).flatMap WE.cells:=by
 induction lq generalizing k with
 | nil=>simp
 | cons x r ih=>
  cases k with
  | zero=>simp
  | succ k=>rw[List.flatMap_cons,List.take_succ_cons,List.flatMap_cons,<-ih k,show(k+1)*2=(WE.cells x).length+k*2 from by show _=2+k*2;omega,List.take_length_add_append]
theorem mX (A:Option Addr) (n c:Nat) (lq:List WE) (hn:n=lq.length) (p:WE->Bool) (tb:Nat) (w:World) (h:SL w 96 2 A n c (lq.flatMap WE.cells)) (hx:∀W,aa (fun k=>∃a,A=some a/\k=a.block) w W->p8 p tb lq W) :
  Calls Tryz.prog 81 #[.slice A n c,.func (.func 82) #[] #[.pointer (some ⟨tb,0,none⟩)]] w fun e w'=>e=.returned (.slice A (lq.filter fun x=>!p x).length c)/\SL w' 96 2 A (lq.filter fun x=>!p x).length c ((lq.filter fun x=>!p x).flatMap WE.cells)/\aa (fun k=>∃a,A=some a/\k=a.block) w w':=by
 have hcm:=h.cmax;have hle:=h.le;unfold maxLen at hcm;have HSL:=zh h;have HN:=zh hn;have HX:=zh hx;have HI:=zh (oz A n c lq hn p tb w h (fun W hW=>hx W (aa.of_below hW)));rcases eh (iM lq p) n with ⟨i0,hi,hf,hp,hno⟩ | ⟨hf,hno⟩
 ·obtain⟨b,o,rfl,hbl⟩:=h.some_ (by omega);rw[hf]at HI;obtain⟨e0,he0⟩:∃e0,lq[i0]? = some e0:=⟨lq[i0]'(by omega),by simp[hn ▸ hi]⟩
  have hp0:p e0=true:=by unfold iM at hp;rw[he0]at hp;exact hp
  have hno0:∀k,k < i0->∀y,lq[k]? = some y->p y=false:=fun k hk y hy=>by
   have:=hno k hk;unfold iM at this;rw[hy]at this
   exact this
  have HD0:=zh (DL.start he0 hp0 hno0);clear h hn hx hf hp hno he0 hp0 hno0;have i0n:(0:Int)<=(i0:Int):=by omega
  have n9:(n:Int)<=9223372036854775807:=by omega
  have i9:(i0:Int)<=9223372036854775806:=by omega
  go_enter Tryz.func81,Tryz.ntmps81;go_wp2_with (go_at_call 105;refine(HI.out).mono ?_;rintro e w1 ⟨rfl,hB1⟩;have HB1:=zh hB1;clear hB1);go_loopw [5,6] (fun v5 v6 wr=>∃(j i:Nat) (L:List WE),v5=.int .i64 i/\v6=.int .i64 j/\i < j/\DL lq p j i L/\SL wr 96 2 (some ⟨b,o,none⟩) n c (L.flatMap WE.cells)/\aa (fun k=>k=b) w wr) (fun _ v _=>n-(intOf v).toNat)
  case atStart=>exact⟨i0+1,i0,lq,rfl,by go_num,by omega,HD0.out,HSL.out.next HB1.out,aa.of_below HB1.out⟩
  case round=>
   obtain⟨j,i,L,rfl,rfl,hij,hD,hS,hK⟩:=hrel;have HD:=zh hD;have HS:=zh hS;have HK:=zh hK;have hjl:=hD.jl;rw[<-HN.out]at hjl;clear hD hS hK;have hin:i < n:=by omega
   have j0:(0:Int)<=(j:Int):=by omega
   have k0:(0:Int)<=(i:Int):=by omega
   have k1:(i:Int) < (n:Int):=by omega
   by_cases hlt:j < n
   ·obtain⟨x,hxj⟩:∃x,lq[j]? = some x:=⟨lq[j]'(by have:=HN.out;omega),by simp[HN.out ▸ hlt]⟩
    have HXJ:=zh hxj;have hLj:L[j]? = some x:=(HD.out.rest j aB).trans hxj;have c0:=HS.out.cell rfl (j:=j*2+0) (by omega);have c1:=HS.out.cell rfl (j:=j*2+1) (by omega);rw[be WE.cells 2 WE.len L j _ x hLj (by omega)]at c0 c1;simp only[WE.cells,List.getElem?_cons_zero,List.getElem?_cons_succ,Nat.add_zero]at c0 c1;rw[<-Nat.add_assoc]at c1;have HC:=zh (fun(V:World) (hV:Below wr.heap.size wr V)=>HX.out V ((HK.out.trans (aa.of_below (F:=fun k=>k=b) hV) (fun _ _ h=>h)).mono (fun k e=>⟨_,rfl,e⟩)) x (List.mem_of_getElem? hxj));have j1:(j:Int) < (n:Int):=by omega
    have hbl2:=HS.out.lt rfl;clear hxj hLj;go_upto_region 8 with (fail)
    refine ah (fun V=>ae V wr.heap.size 96 #[.slice x.A x.v.n x.c,.int .i64 x.v.at_]/\Below wr.heap.size wr V) ⟨ae.new _ _ _,(Below.refl _ wr).alloc aB _⟩ ?_;rintro V2 ⟨b1,b2⟩;have v0:=b1.cell 0;have v1:=b1.cell 1;simp only[List.getElem?_toArray,List.getElem?_cons_zero,List.getElem?_cons_succ]at v0 v1;have HC2:=zh (HC.out V2 b2);have B1:=zh b1;have B2:=zh b2;obtain⟨vb,hvb⟩:=af wr.heap.size
    have HVB:=zh hvb;obtain⟨bb,hbb⟩:=af (p x)
    have HPX:=zh hbb;rw[<-hbb]at HC2;rw[<-hvb]at v0 v1 B1 B2 ⊢;clear b1 b2 hvb hbb c0 c1
    cases bb
    ·go_upto_region 9 with (go_at_call 82;refine(HC2.out).mono ?_;rintro e w2 ⟨rfl,hB3⟩;have HB3:=zh hB3;clear hB3)
     have hB12:=zh (B2.out.trans (HB3.out.mono (by have:=B1.out.lt;omega)));have K2:=zh (HK.out.trans (aa.of_below (F:=fun k=>k=b) (hB12.out.mono (by rw[HVB.out];exact Nat.le_refl _))) (fun _ _ h=>h));have S2:=zh (HS.out.next (hB12.out.mono (by rw[HVB.out];exact Nat.le_refl _)));have B3:=B1.out.below HB3.out B1.out.lt;have u0:=B3.cell 0;have u1:=B3.cell 1;simp only[List.getElem?_toArray,List.getElem?_cons_zero,List.getElem?_cons_succ]at u0 u1;obtain⟨y,hy⟩:∃y,L[i]? = some y:=⟨L[i]'(by rw[HD.out.len,<-HN.out];exact hin),List.getElem?_eq_getElem _⟩
     have d0:=S2.out.cell rfl (j:=i*2+0) (by omega);have d1:=S2.out.cell rfl (j:=i*2+1) (by omega);rw[be WE.cells 2 WE.len L i _ y hy (by omega)]at d0 d1;simp only[WE.cells,List.getElem?_cons_zero,List.getElem?_cons_succ,Nat.add_zero]at d0 d1;rw[<-Nat.add_assoc]at d1;have f0:=S2.out.frozen rfl (o+i*2);have f1:=S2.out.frozen rfl (o+i*2+1);clear v0 v1 B3 hy;go_upto_region 10 with (fail)
     refine ah (fun V=>SL V 96 2 (some ⟨b,o,none⟩) n c ((L.set i x).flatMap WE.cells)/\aa (fun k=>k=b) w V) ⟨S2.out.setAt WE.len i hin x,K2.out.trans (dG (F:=fun k=>k=b) (b:=b) rfl x.cells (o+i*2) w2) (fun _ _ h=>h)⟩ ?_;rintro V3 ⟨s1,s2⟩;have S3:=zh s1;have K3:=zh s2;have HD3:=zh (HD.out.keep HXJ.out HPX.out.symm);clear s1 s2 u0 u1 d0 d1 f0 f1;go_wp2;go_roundw
     case rel=>((repeat apply Exists.intro);refine⟨?_,rfl⟩);exact⟨j+1,i+1,L.set i x,by go_num,by go_num,by omega,HD3.out,S3.out,K3.out⟩
     case measure=>simp[intOf];omega
    ·have HD3:=zh (HD.out.drop HXJ.out HPX.out.symm);go_wp2_with (go_at_call 82;refine(HC2.out).mono ?_;rintro e w2 ⟨rfl,hB3⟩;have HB3:=zh hB3;clear hB3);have hB12:=zh (B2.out.trans (HB3.out.mono (by have:=B1.out.lt;omega)));go_roundw
     case rel=>((repeat apply Exists.intro);refine⟨?_,rfl⟩);exact⟨j+1,i,L,by go_num,by go_num,by omega,HD3.out,HS.out.next (hB12.out.mono (by rw[HVB.out];exact Nat.le_refl _)),HK.out.trans (aa.of_below (F:=fun k=>k=b) (hB12.out.mono (by rw[HVB.out];exact Nat.le_refl _))) (fun _ _ h=>h)⟩
     case measure=>simp[intOf];omega
   ·obtain rfl:j=n:=by omega
    have hdone:=(HN.out ▸ HD.out).done;have hil:i=(lq.filter fun x=>!p x).length:=by
     rw[<-hdone,List.length_take,HD.out.len,<-HN.out];omega
    have HDN:=zh hdone;have HIL:=zh hil;have hci:¬c=i:=by omega
    have hci2:¬c < i:=by omega
    have c9:(c:Int)<=9223372036854775807:=by omega
    have kc:(i:Int)<=(c:Int):=by omega
    have kn:(j:Int)<=(c:Int):=by omega
    have hzs:(#[.slice none 0 0,.int .i64 0]:Array Value).size=2:=rfl;have hcl:∀ty,(Builtin.clear_ #[88] ty #[.slice (some ⟨b,o+i*2,none⟩) (j-i) (c-i)]).run Tryz.prog wr=.ok (.tuple #[]) (wr.setCells b (o+i*2) (Builtin.zeroCells #[.slice none 0 0,.int .i64 0] (j-i)).toList):=fun ty=>
     iq wr 88 96 ty (.agg #[.slice none 0 0,.int .i64 0]) Tryz.underlying88 nZ (by simp[Value.cells,Value.oneCell']) b (o+i*2) (j-i) (c-i)
      (fun q hq=>by
       have hq2:q < (j-i)*2:=hq;have:=HS.out.room (j:=i*2+q) (by omega)
       rwa [<-Nat.add_assoc]at this) (fun q hq=>HS.out.frozen rfl _)
    obtain⟨ZC,hZC⟩:=af ((Builtin.zeroCells #[.slice none 0 0,.int .i64 0] (j-i)).toList)
    rw[<-hZC]at hcl;have HF:=zh ((HS.out.take i (by omega)).past (i*2) aB ZC);have HG:=zh (HK.out.trans (dG (F:=fun k=>k=b) (b:=b) rfl ZC (o+i*2) wr) (fun _ _ h=>h));obtain⟨wB,hwB⟩:=af (wr.setCells b (o+i*2) ZC)
    rw[<-hwB]at hcl HF HG;clear hwB hZC hdone hil;go_wp2;go_ret;have hh:=HF.out;rw[mM,HDN.out]at hh;rw[<-HIL.out]
    exact⟨rfl,hh,HG.out.mono (fun k e=>⟨_,rfl,e⟩)⟩
 ·rw[hf]at HI;have hall:(lq.filter fun x=>!p x)=lq:=List.filter_eq_self.2 fun y hy=>by
   obtain⟨k,hk,rfl⟩:=List.mem_iff_getElem.1 hy;have:=hno k (by omega);unfold iM at this;rw[List.getElem?_eq_getElem hk]at this;simp only at this;rw[this]
   rfl
  rw[hall,<-hn];clear h hn hx hf hno hall;go_enter Tryz.func81,Tryz.ntmps81;go_wp2_with (go_at_call 105;refine(HI.out).mono ?_;rintro e w1 ⟨rfl,hB1⟩;have HB1:=zh hB1;clear hB1);go_ret
  exact⟨rfl,HSL.out.next HB1.out,aa.of_below HB1.out⟩
theorem p9 (lq:List WE) (p:QV->Bool):(lq.filter fun e=>!p e.v).map (·.v)=(lq.map (·.v)).filter fun q=>!p q:=by
 rw[List.filter_map];rfl
theorem aG (g:Nat) (s:TS) (W R:Nat->Prop) (w:World) (h:bC w g s W R) (hf:s.Fine) (t:Int) (ht1:-9223372036854775808<=t) (ht2:t<=9223372036854775807) :
  Calls Tryz.prog 42 #[.pointer (some ⟨g,0,none⟩),.int .i64 t] w fun e w'=>e=.returned (.int .i64 (if 1073741824<=t then 2 else 0))/\cV W R w w' g (if 1073741824<=t then s else s.tick t):=by
 have HM:=zh (fun(V:World) (hb:Below w.heap.size w V)=>di g s W R V (h.below hb));have HI:=zh h;obtain⟨qA,qc,lq,pA,pc,lp,ub,cb,hT⟩:=h;have HT:=zh hT;have HF:=zh hf;have hgl:=hT.blk.lt;clear hT hf;by_cases ct:1073741824<=t
 ·rw[if_pos ct,if_pos ct];go_enter Tryz.func42,Tryz.ntmps42;go_upto_region 1 with (fail)
  refine ah (fun V=>V.cell? ⟨w.heap.size,0,none⟩=some (.pointer (some ⟨g,0,none⟩))/\Below w.heap.size w V/\w.heap.size < V.heap.size) ⟨(ae.new _ _ _).cell 0,(Below.refl _ w).alloc aB _,by simp⟩ ?_;rintro W1 ⟨b1,b2,b3⟩;obtain⟨tb,htb⟩:=af w.heap.size
  have HTB:=zh htb;have B2:=zh b2;rw[<-htb]at b1 b3 ⊢;clear b2 htb;go_wp2_with (go_at_call 49;refine(HM.out _ B2.out).mono ?_;rintro e w2 ⟨rfl,rfl⟩);go_ret
  exact⟨rfl,cV.same HI.out B2.out⟩
 rw[if_neg ct,if_neg ct];go_enter Tryz.func42,Tryz.ntmps42;go_upto_region 1 with (fail)
 refine ah (fun V=>V.cell? ⟨w.heap.size,0,none⟩=some (.pointer (some ⟨g,0,none⟩))/\Below w.heap.size w V/\w.heap.size < V.heap.size) ⟨(ae.new _ _ _).cell 0,(Below.refl _ w).alloc aB _,by simp⟩ ?_;rintro W1 ⟨b1,b2,b3⟩;obtain⟨tb,htb⟩:=af w.heap.size
 have HTB:=zh htb;have B2:=zh b2;rw[<-htb]at b1 b3 ⊢;clear b2 htb;go_upto_region 5 with (go_at_call 49;refine(HM.out _ B2.out).mono ?_;rintro e w2 ⟨rfl,rfl⟩)
 have T1:=zh (HT.out.below B2.out);have c1:=T1.out.cnow;have hn0:=HT.out.now0;obtain⟨nw,hnw⟩:=af s.now
 rw[<-hnw]at c1 hn0;have f1:=T1.out.blk.frozen 40;obtain⟨mx,hmx⟩:=af (max nw t)
 have HMX:=zh hmx;have HNW:=zh hnw;clear hnw;go_region;have hmx2:(if nw < t then t else nw)=mx:=by rw[HMX.out];split<;>omega
 rw[hmx2];have hmr:0<=mx/\mx < 1073741824:=by rw[HMX.out];omega
 have TM:=T1.out.setNow mx hmr;have HTG:=zh (show tb ≠ g by have:=HTB.out;omega);have kg:aa (fun k=>k=g) W1 (W1.setCell ⟨g,40,none⟩ (.int .i64 mx)):=(aa.refl (F:=fun k=>k=g)).setCell (p:=⟨g,40,none⟩) rfl _;refine iL (fun V=>ba V g { s with now:=mx } W R qA qc lq pA pc lp ub cb/\aa W w V/\V.cell? ⟨tb,0,none⟩=some (.pointer (some ⟨g,0,none⟩))/\tb < V.heap.size) ⟨TM.below (Below.refl _ _).drew,((aa.of_below B2.out).setCell (p:=⟨g,40,none⟩) T1.out.wg _).drew,(kg.drew.cell (p:=⟨tb,0,none⟩) b3 HTG.out).trans b1,bg b3 kg.drew.size⟩ ?_;rintro V ⟨d1,d2,d3,d4⟩;have TV:=zh d1;have KV:=zh d2;obtain⟨w0,hw0⟩:=af V.drew
 have hb0:Below V.heap.size V w0:=by rw[hw0];exact(Below.refl _ _).drew
 have HQB:=zh (show ∀a,qA=some a->tb ≠ a.block from fun a ha e=>by have:=HT.out.q.lt ha;have:=HTB.out;omega);have HSB:=zh (show ∀W',aa (fun j=>j=g\/∃a,qA=some a/\j=a.block) V W'->W'.cell? ⟨tb,0,none⟩=some (.pointer (some ⟨g,0,none⟩))from fun W' hW=>(hW.cell (p:=⟨tb,0,none⟩) d4 (fun h=>by rcases h with h | ⟨a,ha,e⟩;exact HTG.out h;exact HQB.out a ha e)).trans d3);have T0:=zh (TV.out.below hb0);have HD4:=zh d4;have HP:=zh (show ∀W',aa (fun k=>∃a,qA=some a/\k=a.block) w0 W'->p8 (fun e=>s.gone mx e.v) tb lq W' from fun W' hW e he=>by
  have hS:=HSB.out W' (((aa.of_below hb0).trans hW (fun k _ h=>h)).mono (fun k h=>.inr h));have hg:¬∃a,qA=some a/\g=a.block:=fun⟨a,ha,e⟩=>T0.out.gq a ha e;have hgl0:=T0.out.blk.lt;have ha:=HF.out.at_ e.v (by rw[<-T0.out.qv];exact List.mem_map_of_mem he);have hv:=HF.out.val
  exact po s.C.ds mx e.v.at_ ⟨hv.2.2.2.1,hv.2.2.2.2.1⟩ ⟨ha.1,by rw[HMX.out];have:=HNW.out;omega⟩ hmr.2 e.A e.v.n e.c g tb W' hS
   ((hW.cell (p:=⟨g,37,none⟩) hgl0 hg).trans (T0.out.cC (j:=37) (by decide))) ((hW.cell (p:=⟨g,40,none⟩) hgl0 hg).trans T0.out.cnow) (bg HD4.out (bj hb0.size hW.size)) (bg hgl0 hW.size))
 clear d1 d2 d3 b1 b3 kg TM c1 f1 hmx2 B2 T1;go_upto_region 6 with (fail)
 refine wp_region_held_drew (S:=fun w'=>aa (fun j=>j=g\/∃a,qA=some a/\j=a.block) V w') (by kernel_rfl) ((aa.refl (w:=V)).drew) (fun hHeld=>?_);rw[<-hw0];rw[<-hw0]at hHeld;clear hw0;refine fC (i:=0) (x:=some 20) (v:=.pointer (some ⟨g,0,none⟩)) rfl (.inl ⟨by rfl,fun W hW=>(by have:=HSB.out W hW;go_simp)⟩) ?_;refine fC (i:=1) (x:=some 21) (v:=.pointer (some ⟨g,0,none⟩)) rfl (.inl ⟨by rfl,fun W hW=>(by have:=HSB.out W hW;go_simp)⟩) ?_;refine bu (i:=2) (x:=some 22) (v:=.pointer (some ⟨g,0,none⟩)) rfl ?_;refine bu (i:=3) (x:=some 23) (v:=.pointer (some ⟨g,42,none⟩)) rfl ?_;refine bu (i:=5) (x:=some 25) (v:=.func (.func 82) #[] #[.pointer (some ⟨tb,0,none⟩)]) rfl ?_;refine bh (i:=4) (x:=some 24) rfl fun K hK=>?_;have h42:=T0.out.cq;obtain⟨n,hn⟩:=af lq.length
 have HN:=zh hn;rw[<-hn]at h42;have HDL:=zh (mX qA n qc lq hn (fun e=>s.gone mx e.v) tb w0 (by rw[hn];exact T0.out.q) HP.out);obtain⟨lq',hlq⟩:∃lq',lq'=lq.filter fun e=>!s.gone mx e.v:=⟨_,rfl⟩
 have HLQ:=zh hlq;rw[<-hlq]at HDL;clear hn hlq;go_simp;refine hK.out _ _ hHeld (fun hHeld=>?_);clear hK K h42
 try simp only[Act.put,qa,qb,qc]
 refine bh (i:=6) (x:=some 26) rfl fun K hK=>?_;go_simp;refine(HDL.out).mono ?_;rintro e wD ⟨rfl,hSD,hKD⟩;dsimp only;have SD:=zh hSD;have KD:=zh hKD;obtain⟨n',hn'⟩:=af lq'.length
 have HN':=zh hn';rw[<-hn'];have hg9:ae wD g 91 _:=hKD.blk T0.out.blk (fun⟨a,ha,e⟩=>T0.out.gq a ha e);have hc43:wD.cell? ⟨g,42,none⟩=some (.slice qA lq.length qc):=(hg9.cell 42).trans (aE s.C.arr_size 3);have hf43:=hg9.frozen 42;refine hK.out _ _ (hHeld.trans hKD (fun j _ hj=>.inr hj)) (fun hHeld=>?_);clear hK K hSD hKD hn' hg9
 try simp only[Act.put,qa,qb,qc]
 refine bu (i:=7) (x:=some 27) (v:=.pointer (some ⟨g,0,none⟩)) rfl ?_;refine bu (i:=8) (x:=some 28) (v:=.pointer (some ⟨g,42,none⟩)) rfl ?_;refine bh (i:=9) (x:=none) rfl fun K hK=>?_;have hlen:lq'.length=n':=HN'.out.symm;have TF:=T0.out.setQ (lq':=lq') (qA':=qA) (qc':=qc) (w1:=wD) KD.out (fun a ha=>.inl ⟨a,ha,rfl⟩) SD.out (fun e he=>(T0.out.qe e (by rw[HLQ.out]at he;exact(List.mem_filter.1 he).1)).keep KD.out (fun j ⟨a,ha,e2⟩ hr=>T0.out.dis j (by rw[e2];exact T0.out.wq a ha) hr));rw[hlen]at TF;have HTF:=zh TF;have hS9:aa (fun j=>j=g\/∃a,qA=some a/\j=a.block) V (wD.setCell ⟨g,42,none⟩ (.slice qA n' qc)):=hHeld.setCell (p:=⟨g,42,none⟩) (.inl rfl) _;have HKF:=zh (KV.out.trans hS9 (fun k _ h=>by rcases h with h | ⟨a,ha,e⟩;rw[h];exact TV.out.wg;rw[e];exact TV.out.wq a ha));clear TF hlen;go_simp;refine hK.out _ _ hS9 (fun hHeld=>?_);clear hK K hS9
 try simp only[Act.put]
 refine wpAnyH_done (by kernel_rfl) ?_ _;go_wp2;go_ret;refine⟨rfl,(fun k=>W k\/∃a,qA=some a/\k=a.block),R,⟨qA,qc,lq',pA,pc,lp,ub,cb,?_⟩,?_,fun k hr=>.inl hr,HKF.out⟩
 ·have hh:=HTF.out;have e1:lq'.map (·.v)=(s.tick t).Q:=by
   rw[HLQ.out,p9,T0.out.qv,HMX.out,HNW.out];rfl
  have e2:s.tick t={ s with now:=mx,Q:=lq'.map (·.v) }:=by
   rw[e1,HMX.out,HNW.out];rfl
  rw[e2]
  exact hh
 ·rintro k (hk | ⟨a,ha,rfl⟩)
  ·exact .inl hk
  ·exact .inl (T0.out.wq a ha)
theorem cV.comp {W R W1 R1:Nat->Prop} {w w1 w2:World} {g:Nat} {s:TS} (hW:∀k,W1 k->W k\/w.heap.size<=k) (hR:∀k,R1 k->R k\/w.heap.size<=k) (hK:aa W w w1) (h:cV W1 R1 w1 w2 g s):cV W R w w2 g s:=by
 obtain⟨W2,R2,h1,h2,h3,h4⟩:=h;have hs:=hK.size;refine⟨W2,R2,h1,fun k hk=>?_,fun k hk=>?_,hK.trans h4 (fun b hb h=>?_)⟩
 ·rcases h2 k hk with h | h
  ·exact hW k h
  ·exact .inr (by omega)
 ·rcases h3 k hk with h | h
  ·exact hR k h
  ·exact .inr (by omega)
 ·rcases hW b h with h | h
  ·exact h
  ·omega
structure kC (w:World) (W:Nat->Prop) (A:Option Addr) (n:Nat) (z:Nat->Int):Prop where
 row:av w w.heap.size A n (fun j=>.int .u8 (z j))
 byte:∀j,j < n->0<=z j/\z j < 256
 out:∀a,A=some a->n ≠ 0->¬W a.block
theorem kC.keep {w w1:World} {W W1:Nat->Prop} {A:Option Addr} {n:Nat} {z:Nat->Int} (h:kC w W A n z) (hk:aa W w w1) (hW:∀k,W1 k->W k\/w.heap.size<=k):kC w1 W1 A n z:=
 ⟨(hk.row h.row aB h.out).more hk.size,h.byte,fun a e hn hw=>by
  obtain⟨b,off,e2,hb,_⟩:=h.row (by omega);rw[e2]at e
  cases e
  rcases hW _ hw with h1 | h1
  ·exact h.out _ e2 hn h1
  ·have:b < w.heap.size:=hb;have:w.heap.size<=b:=h1;omega⟩
theorem gQ (g:Nat) (s:TS) (W R:Nat->Prop) (w:World) (h:bC w g s W R) (hf:s.Fine) (t:Int) (ht1:-9223372036854775808<=t) (ht2:t<=9223372036854775807) (A:Option Addr) (n c:Nat) (z:Nat->Int) (ha:kC w W A n z) (hbad:1073741824<=t\/n=0\/9000 < n) (hn9:n<=1000000) :
  Calls Tryz.prog 12 #[.pointer (some ⟨g,0,none⟩),.int .i64 t,.slice A n c] w fun e w'=>e=.returned (.int .i64 (s.submit t n z).1)/\cV W R w w' g (s.submit t n z).2:=by
 unfold TS.submit;by_cases ct:1073741824<=t
 ·rw[if_pos ct];have HTK:=zh (aG g s W R w h hf t ht1 ht2);have HA:=zh ha;have HF:=zh hf;have n0:(0:Int)<=(n:Int):=by omega
  clear h hf ha;go_enter Tryz.func12,Tryz.ntmps12;rw[if_pos ct,if_pos ct]at HTK;go_wp2_with (go_at_call 42;refine(HTK.out).mono ?_;rintro e w1 ⟨rfl,hO⟩;have HO:=zh hO;clear hO);go_ret
  exact⟨rfl,HO.out⟩
 rw[if_neg ct];by_cases cn:n=0
 ·rw[if_pos cn];have hz:(n:Int)=0:=by omega
  have HTK:=zh (aG g s W R w h hf t ht1 ht2);have HA:=zh ha;have HF:=zh hf;have n0:(0:Int)<=(n:Int):=by omega
  clear h hf ha;go_enter Tryz.func12,Tryz.ntmps12;rw[if_neg ct,if_neg ct]at HTK;go_wp2_with (go_at_call 42;refine(HTK.out).mono ?_;rintro e w1 ⟨rfl,hO⟩;have HO:=zh hO;clear hO);go_ret
  exact⟨rfl,HO.out⟩
 rw[if_neg cn];have cl:9000 < n:=by omega
 rw[if_pos cl];have HTK:=zh (aG g s W R w h hf t ht1 ht2);have HA:=zh ha;have HF:=zh hf;have n0:(0:Int)<=(n:Int):=by omega
 clear h hf ha;go_enter Tryz.func12,Tryz.ntmps12;rw[if_neg ct,if_neg ct]at HTK;have hl1:¬((n:Int)=0):=by omega
 have hl2:(9000:Int) < (n:Int):=by omega
 have hl3:(n:Int)<=9223372036854775807:=by omega
 go_wp2_with (go_at_call 42;refine(HTK.out).mono ?_;rintro e w1 ⟨rfl,hO⟩;have HO:=zh hO;clear hO);go_ret
 exact⟨rfl,HO.out⟩
theorem ii (g:Nat) (s:TS) (W R:Nat->Prop) (w:World) (h:bC w g s W R) (hf:s.Fine) (hcm:s.C.cm=false) (hql:s.Q.length<=1000000) (t:Int) (ht1:-9223372036854775808<=t) (ht2:t<=9223372036854775807) (A:Option Addr) (n c:Nat) (z:Nat->Int) (ha:kC w W A n z) (hn9:n<=1000000) :
  Calls Tryz.prog 12 #[.pointer (some ⟨g,0,none⟩),.int .i64 t,.slice A n c] w fun e w'=>e=.returned (.int .i64 (s.submit t n z).1)/\cV W R w w' g (s.submit t n z).2:=by
 by_cases hbad:1073741824<=t\/n=0\/9000 < n
 ·exact gQ g s W R w h hf t ht1 ht2 A n c z ha hbad hn9
 have ct:¬1073741824<=t:=fun h=>hbad (.inl h);have cn:¬n=0:=fun h=>hbad (.inr (.inl h));have cl:¬9000 < n:=fun h=>hbad (.inr (.inr h));unfold TS.submit;rw[if_neg ct,if_neg cn,if_neg cl];have HTK:=zh (aG g s W R w h hf t ht1 ht2);have HA:=zh ha;have HF:=zh hf;have n0:(0:Int)<=(n:Int):=by omega
 clear h hf ha;go_enter Tryz.func12,Tryz.ntmps12;rw[if_neg ct,if_neg ct]at HTK;have HCM:=zh hcm;have HQL:=zh (bj (s.tick_len t) hql);have HNP:Hid (1<=n/\n<=9000):=zh (by omega);have hl1:¬((n:Int)=0):=by omega
 have hl2:¬(9000:Int) < (n:Int):=by omega
 have hl3:(n:Int)<=9223372036854775807:=by omega
 clear hbad cn cl hcm hql;obtain⟨s1,hs1⟩:=af (s.tick t)
 have HC1:Hid (s1.C=s.C):=zh (by rw[hs1];rfl);have HNOW:Hid (s1.now=max s.now t):=zh (by rw[hs1];rfl);rw[<-hs1]at HTK HQL ⊢;clear hs1;go_upto_region 8 with (go_at_call 42;refine(HTK.out).mono ?_;rintro e w1 ⟨rfl,hO⟩;have HO:=zh hO;clear hO)
 obtain⟨W1,R1,hI1,hW1,hR1,hK1⟩:=HO.out;obtain⟨qA,qc,lq,pA,pc,lp,ub,cb,hT1⟩:=hI1;have T1:=zh hT1;have HW1:=zh hW1;have HR1:=zh hR1;have HK1:=zh hK1;have A1:=zh (HA.out.keep hK1 hW1);have c35:w1.cell? ⟨g,35,none⟩=some (.bool false):=(hT1.cC (j:=35) (by decide)).trans (by rw[show s1.C.cell 35=.bool s1.C.cm from rfl,HC1.out,HCM.out]);clear hT1 hW1 hR1 hK1;go_upto_region 12 with (fail)
 have hgl:=T1.out.blk.lt;obtain⟨w0,hw0⟩:=af w1.drew
 have hb0:Below w1.heap.size w1 w0:=by rw[hw0];exact(Below.refl _ _).drew
 have T0:ba w0 g s1 W1 R1 qA qc lq pA pc lp ub cb:=T1.out.below hb0;have A0:=A1.out.keep (aa.of_below (F:=W1) hb0) (fun k hk=>.inl hk);obtain⟨iw,hiw,hiwz,hiws,hiwb⟩:=fV;have cnow:=T0.cnow;obtain⟨mx,hmx⟩:=af s1.now
 have HMX:=zh hmx;rw[<-hmx]at cnow;refine wp_region_held_drew (S:=fun w'=>aa (fun j=>j=g\/∃a,qA=some a/\j=a.block) w1 w'/\w'.cell? ⟨g,40,none⟩=some (.int .i64 mx)) (by kernel_rfl) ⟨(aa.refl (w:=w1)).drew,by rw[<-hw0];exact cnow⟩ (fun hHeld=>?_);rw[<-hw0];rw[<-hw0]at hHeld;clear hw0 cnow hmx c35;obtain⟨ql,hql⟩:=af lq.length
 have HPL:=zh hql;have HQ6:Hid (ql<=1000000):=zh (by rw[hql];have hq:=congrArg List.length T0.qv;have:=HQL.out;rw[List.length_map]at hq;omega);clear hql;refine dN (i:=0) (x:=some 33) (v:=.pointer (some ⟨g,0,none⟩)) rfl ?_;refine dN (i:=1) (x:=some 34) (v:=.pointer (some ⟨g,0,none⟩)) rfl ?_;refine bu (i:=2) (x:=some 35) (v:=.pointer (some ⟨g,0,none⟩)) rfl ?_;refine bu (i:=3) (x:=some 36) (v:=.pointer (some ⟨g,42,none⟩)) rfl ?_;refine dN (i:=5) (x:=some 38) (v:=.slice A n c) rfl ?_;refine dN (i:=7) (x:=some 40) (v:=.pointer (some ⟨g,0,none⟩)) rfl ?_;refine bu (i:=8) (x:=some 41) (v:=.pointer (some ⟨g,0,none⟩)) rfl ?_;refine bu (i:=9) (x:=some 42) (v:=.pointer (some ⟨g,40,none⟩)) rfl ?_;refine fC (i:=10) (x:=some 43) (v:=.int .i64 mx) rfl (.inl ⟨by rfl,fun W hW=>(by have:=hW.2;go_simp)⟩) ?_;refine wpAnyH_ready (rs:=[4,6]) (by kernel_rfl) (by simp) ?_;refine AllReadyH.cons (o:=⟨some 37,_,_,_,_,_⟩) rfl (fun K hK=>?_) (AllReadyH.cons (o:=⟨some 39,_,_,_,_,_⟩) rfl (fun K hK=>?_) AllReadyH.nil)
 focus
  skip;rw[if_pos (by rfl)];have h43:=T0.cq;rw[<-HPL.out]at h43;go_simp;refine hK.out _ _ hHeld (fun hHeld=>?_);clear hK K h43
  try simp only[Act.put,qa,qb,qc]
  refine bh (i:=6) (x:=some 39) rfl fun K hK=>?_;go_simp;refine(bB A n c z w0 (by omega) A0.row).mono ?_;rintro e w1' ⟨A2,c2',rfl,hc2,hR2,hF2,hbk⟩;dsimp only;have hFl:∀a,A2=some a->w0.heap.size<=a.block:=hF2;have hFr:∀a,A2=some a->a.block < w1'.heap.size:=fun a e=>bT hR2 HNP.out.1 e;have hwl1:∀j,W1 j->j < w0.heap.size:=T0.win;have U1:=T0.below hbk;have hb1:Below w1.heap.size w1 w1':=hb0.trans (hbk.mono hb0.size);have hW2:∀j,W1 j->∀a,A2=some a->j ≠ a.block:=fun j hj a e=>by have:=hFl a e;have:=hwl1 j hj;omega
  refine hK.out _ _ ⟨hHeld.1.more hbk,(hbk.cell (p:=⟨g,40,none⟩) T0.blk.lt).trans hHeld.2⟩ (fun hHeld=>?_);clear hK K hbk hF2
  try simp only[Act.put,qa,qb,qc]
  refine bu (i:=11) (x:=some 44) (v:=.agg #[.slice A2 n c2',.int .i64 mx]) rfl ?_;refine bh (i:=12) (x:=some 45) rfl fun K hK=>?_;go_simp;obtain⟨w2',hv⟩:∃X,X=w1'.alloc (.cells #[.slice A2 n c2',.int .i64 mx] 96):=⟨_,rfl⟩
  obtain⟨nb,hnb⟩:=af w1'.heap.size
  have hbk:Below w1'.heap.size w1' w2':=by rw[hv];exact bR _
  have hNB:ae w2' nb 96 #[.slice A2 n c2',.int .i64 mx]:=by rw[hv,hnb];exact ae.new _ _ _
  have T2:=U1.below hbk;have hb2:Below w1.heap.size w1 w2':=hb1.trans (hbk.mono hb1.size);replace hR2:=hR2.next hbk;replace hFr:∀a,A2=some a->a.block < w2'.heap.size:=fun a e=>bg (hFr a e) hbk.size;rw[<-hv,<-hnb];refine hK.out _ _ ⟨hHeld.1.more hbk,(hbk.cell (p:=⟨g,40,none⟩) U1.blk.lt).trans hHeld.2⟩ (fun hHeld=>?_);clear hK K hbk hv hnb
 rotate_left
 focus
  skip;rw[if_pos (by rfl)];go_simp;refine(bB A n c z w0 (by omega) A0.row).mono ?_;rintro e w1' ⟨A2,c2',rfl,hc2,hR2,hF2,hbk⟩;dsimp only;have hFl:∀a,A2=some a->w0.heap.size<=a.block:=hF2;have hFr:∀a,A2=some a->a.block < w1'.heap.size:=fun a e=>bT hR2 HNP.out.1 e;have hwl1:∀j,W1 j->j < w0.heap.size:=T0.win;have U1:=T0.below hbk;have hb1:Below w1.heap.size w1 w1':=hb0.trans (hbk.mono hb0.size);have hW2:∀j,W1 j->∀a,A2=some a->j ≠ a.block:=fun j hj a e=>by have:=hFl a e;have:=hwl1 j hj;omega
  refine hK.out _ _ ⟨hHeld.1.more hbk,(hbk.cell (p:=⟨g,40,none⟩) T0.blk.lt).trans hHeld.2⟩ (fun hHeld=>?_);clear hK K hbk hF2
  try simp only[Act.put,qa,qb,qc]
  refine bu (i:=11) (x:=some 44) (v:=.agg #[.slice A2 n c2',.int .i64 mx]) rfl ?_;refine wpAnyH_ready (rs:=[4,12]) (by kernel_rfl) (by simp) ?_;refine AllReadyH.cons (o:=⟨some 37,_,_,_,_,_⟩) rfl (fun K hK=>?_) (AllReadyH.cons (o:=⟨some 45,_,_,_,_,_⟩) rfl (fun K hK=>?_) AllReadyH.nil)
  focus
   skip;rw[if_pos (by rfl)];have h43:=U1.cq;rw[<-HPL.out]at h43;go_simp;refine hK.out _ _ hHeld (fun hHeld=>?_);clear hK K h43
   try simp only[Act.put,qa,qb,qc]
   refine bh (i:=12) (x:=some 45) rfl fun K hK=>?_;go_simp;obtain⟨w2',hv⟩:∃X,X=w1'.alloc (.cells #[.slice A2 n c2',.int .i64 mx] 96):=⟨_,rfl⟩
   obtain⟨nb,hnb⟩:=af w1'.heap.size
   have hbk:Below w1'.heap.size w1' w2':=by rw[hv];exact bR _
   have hNB:ae w2' nb 96 #[.slice A2 n c2',.int .i64 mx]:=by rw[hv,hnb];exact ae.new _ _ _
   have T2:=U1.below hbk;have hb2:Below w1.heap.size w1 w2':=hb1.trans (hbk.mono hb1.size);replace hR2:=hR2.next hbk;replace hFr:∀a,A2=some a->a.block < w2'.heap.size:=fun a e=>bg (hFr a e) hbk.size;rw[<-hv,<-hnb];refine hK.out _ _ ⟨hHeld.1.more hbk,(hbk.cell (p:=⟨g,40,none⟩) U1.blk.lt).trans hHeld.2⟩ (fun hHeld=>?_);clear hK K hbk hv hnb
  rotate_left
  focus
   skip;rw[if_pos (by rfl)];go_simp;obtain⟨w2',hv⟩:∃X,X=w1'.alloc (.cells #[.slice A2 n c2',.int .i64 mx] 96):=⟨_,rfl⟩
   obtain⟨nb,hnb⟩:=af w1'.heap.size
   have hbk:Below w1'.heap.size w1' w2':=by rw[hv];exact bR _
   have hNB:ae w2' nb 96 #[.slice A2 n c2',.int .i64 mx]:=by rw[hv,hnb];exact ae.new _ _ _
   have T2:=U1.below hbk;have hb2:Below w1.heap.size w1 w2':=hb1.trans (hbk.mono hb1.size);replace hR2:=hR2.next hbk;replace hFr:∀a,A2=some a->a.block < w2'.heap.size:=fun a e=>bg (hFr a e) hbk.size;rw[<-hv,<-hnb];refine hK.out _ _ ⟨hHeld.1.more hbk,(hbk.cell (p:=⟨g,40,none⟩) U1.blk.lt).trans hHeld.2⟩ (fun hHeld=>?_);clear hK K hbk hv hnb
   try simp only[Act.put,qa,qb,qc]
   refine bh (i:=4) (x:=some 37) rfl fun K hK=>?_;have h43:=T2.cq;rw[<-HPL.out]at h43;go_simp;refine hK.out _ _ hHeld (fun hHeld=>?_);clear hK K h43
 all_goals
  try simp only[Act.put,qa,qb,qc]
  refine bh (i:=13) (x:=some 46) rfl fun K hK=>?_;have hSL:=T2.q;rw[<-HPL.out]at hSL;refine bo _ _ _ _ rfl w2' 96 iw (.agg #[.slice none 0 0,.int .i64 0]) 2 32 Tryz.underlying88 hiw hiwz hiws hiwb rfl qA ql qc (lq.flatMap WE.cells) rfl hSL _ rfl 1 [.slice A2 n c2',.int .i64 mx] (Src.ofSlice _ Tryz.underlying88 ⟨nb,0,none⟩ 1 1 _ rfl (fun j u hu=>by
    have hj:j < 2:=(List.getElem?_eq_some_iff.1 hu).1;rw[Addr.add_lit,Nat.zero_add,hNB.cell j];simpa using hu) (by simp[Value.oneCell'])) (by decide) (by unfold maxLen;have:=HQ6.out;omega) (by have:=HQ6.out;omega) ?_
  intro A9 c9 wA hSL9 hK9 hA9;dsimp only;have hA9n:∀a,A9=some a->(∃a',qA=some a'/\a.block=a'.block)\/w2'.heap.size<=a.block:=hA9;refine hK.out _ _ ⟨hHeld.1.trans hK9 (fun j _ hj=>.inr hj),(hK9.cell (p:=⟨g,40,none⟩) T2.blk.lt (fun⟨a,ha,e⟩=>T2.gq a ha e)).trans hHeld.2⟩ (fun hHeld=>?_);clear hK K
  try simp only[Act.put,qa,qb,qc]
  refine bu (i:=14) (x:=some 47) (v:=.pointer (some ⟨g,0,none⟩)) rfl ?_;refine bu (i:=15) (x:=some 48) (v:=.pointer (some ⟨g,42,none⟩)) rfl ?_;refine bh (i:=16) (x:=none) rfl fun K hK=>?_;have hg9:ae wA g 91 _:=hK9.blk T2.blk (fun⟨a,ha,e⟩=>T2.gq a ha e);have hc43:wA.cell? ⟨g,42,none⟩=some (.slice qA lq.length qc):=(hg9.cell 42).trans (aE s1.C.arr_size 3);have hf43:=hg9.frozen 42;have T9:=T2.moreR (R':=fun j=>R1 j\/∃a,A2=some a/\j=a.block) (fun j hj=>.inl hj) (fun j hw hr=>by rcases hr with hr | ⟨a,ha,e⟩;exact T2.dis j hw hr;exact hW2 j hw a ha e) (fun j hr=>by rcases hr with hr | ⟨a,ha,e⟩;exact T2.rin j hr;(rw[e];exact hFr a ha));have hpk9:∀e:WE,e∈lq++[(⟨⟨n,z,mx⟩,A2,c2'⟩:WE)]->bE wA (fun j=>R1 j\/∃a,A2=some a/\j=a.block) e.A e.v.n e.c e.v.z:=fun e he=>by
   have hx:bE w2' (fun j=>R1 j\/∃a,A2=some a/\j=a.block) e.A e.v.n e.c e.v.z:=by
    rcases List.mem_append.1 he with he | he
    ·exact T9.qe e he
    ·have:e=(⟨⟨n,z,mx⟩,A2,c2'⟩:WE):=by simpa using he
     rw[this]
     exact bE.of_clone HNP.out.1 HNP.out.2 hc2 A0.byte hR2
   exact hx.keep hK9 (fun j ⟨a,ha,e2⟩ hr=>T9.dis j (by rw[e2];exact T9.wq a ha) hr)
  have hlen9:(lq++[(⟨⟨n,z,mx⟩,A2,c2'⟩:WE)]).length=ql+1:=by rw[List.length_append,HPL.out];rfl
  have hSL9':SL wA 96 2 A9 (lq++[(⟨⟨n,z,mx⟩,A2,c2'⟩:WE)]).length c9 ((lq++[(⟨⟨n,z,mx⟩,A2,c2'⟩:WE)]).flatMap WE.cells):=by
   rw[hlen9,List.flatMap_append]
   exact hSL9
  have TF:=T9.setQ hK9 hA9n hSL9' hpk9;rw[hlen9,List.map_append,T2.qv]at TF;have HTF:=zh TF;have hS9:aa (fun j=>j=g\/∃a,qA=some a/\j=a.block) w1 (wA.setCell ⟨g,42,none⟩ (.slice A9 (ql+1) c9)):=hHeld.1.setCell (p:=⟨g,42,none⟩) (.inl rfl) _;have hS40:(wA.setCell ⟨g,42,none⟩ (.slice A9 (ql+1) c9)).cell? ⟨g,40,none⟩=some (.int .i64 mx):=by rw[HTF.out.cnow,HMX.out]
  have HKF:=zh (hS9.mono (G:=W1) (fun k h=>by rcases h with h | ⟨a,ha,e⟩;rw[h];exact T2.wg;rw[e];exact T2.wq a ha));have HWF:=zh (show ∀k,(W1 k\/∃a,A9=some a/\k=a.block)->W1 k\/w1.heap.size<=k from fun k hk=>by
   rcases hk with hk | ⟨a,ha,e⟩
   ·exact .inl hk
   ·rcases hA9n a ha with ⟨a',ha',e'⟩ | hge
    ·exact .inl (by rw[e,e'];exact T2.wq a' ha')
    ·exact .inr (by have:=hb2.size;omega))
  have HRF:=zh (show ∀k,(R1 k\/∃a,A2=some a/\k=a.block)->R1 k\/w1.heap.size<=k from fun k hk=>by
   rcases hk with hk | ⟨a,ha,e⟩
   ·exact .inl hk
   ·exact .inr (by have:=hFl a ha;have:=hb0.size;omega))
  clear TF hSL9 hSL9' hpk9 hK9 hA9 hA9n T9 hg9 hSL;go_simp;refine hK.out _ _ ⟨hS9,hS40⟩ (fun hHeld=>?_);clear hK K hS9 hS40
  try simp only[Act.put]
  refine wpAnyH_done (by kernel_rfl) ?_ _;go_wp2;go_ret;refine⟨rfl,cV.comp HW1.out HR1.out HK1.out ⟨_,_,⟨A9,c9,lq++[(⟨⟨n,z,mx⟩,A2,c2'⟩:WE)],pA,pc,lp,ub,cb,?_⟩,HWF.out,HRF.out,HKF.out⟩⟩
  ·exact(by
    have hh:=HTF.out;rw[show max s.now t=mx from by rw[HMX.out,HNOW.out]]
    exact hh)
def eq (cf:aP) (ct n:Nat) (z:Nat->Int) (w:World) (e:Ending) (w':World):Prop:=
 ∃A c,e=.returned (.tuple #[.slice A (aZ cf n) c,.int .i64 0])/\aZ cf n<=c/\(∀a,A=some a->w.heap.size<=a.block/\∃cur t,w'.heap[a.block]? = some (.cells cur t (0,0)))/\av w' w'.heap.size A (aZ cf n) (fun j=>.int .u8 ((cA cf ct n (nf z) j:Nat):Int))/\Below w.heap.size w w'
theorem aP.Ok.keyN {C:aP} (hok:C.Ok):bc (nf C.key):=fun j hj=>eH hok.key hj
theorem jM {cf:aP} {ct n:Nat} {z:Nat->Nat} (h:cf.ig=false) {j:Nat} (hj:j < n):ir (nf cf.key) ct cf.b.toNat cf.d.toNat (eo cf ct n z) j=ir (nf cf.key) ct cf.b.toNat cf.d.toNat z j:=by
 unfold ir eo bQ;rw[if_pos hj]
theorem gv {w:World} {A:Option Addr} {n c:Nat} {xs:List Value} {v:Nat->Value} (h:SL w 5 1 A n c xs) (hx:∀j,j < n->xs[j]? = some (v j)):av w w.heap.size A n v:=fun hn=>by
 obtain⟨b,o,hA,hb⟩:=h.some_ hn
 exact⟨b,o,hA,hb,fun j hj=>(h.cell hA (by omega)).trans (hx j hj)⟩
theorem fY (g:Nat) (s:TS) (W R:Nat->Prop) (w:World) (h:bC w g s W R) (hok:s.C.Ok) (hv:s.C.Valid) (hig:s.C.ig=false) (hcm:s.C.cm=false) (ct:Nat) (hct:ct < 4294967296) (A:Option Addr) (n c:Nat) (z:Nat->Int) (hp1:1<=n) (hp9:n<=9000) (hr:av w w.heap.size A n (fun j=>.int .u8 (z j))) (hz:∀j,j < n->0<=z j/\z j < 256) :
  Calls Tryz.prog 46 #[.pointer (some ⟨g,0,none⟩),.int .u32 ct,.slice A n c] w (eq s.C ct n z w):=by
 obtain⟨qA,qc,lq,pA,pc,lp,ub,cb,hT⟩:=h;have HT:=zh hT;have HR:=zh hr;have HZ:=zh hz;have c35:w.cell? ⟨g,35,none⟩=some (.bool false):=(hT.cC (j:=35) (by decide)).trans (by rw[show s.C.cell 35=.bool s.C.cm from rfl,hcm]);have c0:(0:Int)<=(ct:Int):=by omega
 have c1:(ct:Int) < 4294967296:=by omega
 have HIG:=zh hig;have HKL:=zh hok.keyN;obtain⟨B,hB⟩:∃B:Nat,B=s.C.b.toNat:=⟨_,rfl⟩
 obtain⟨D,hD⟩:∃D:Nat,D=s.C.d.toNat:=⟨_,rfl⟩
 have HB:=zh hB;have HD:=zh hD;have HBI:Hid (s.C.b=(B:Int)):=zh (by rw[hB];have:=hv.1;omega);have HDI:Hid (s.C.d=(D:Int)):=zh (by rw[hD];have:=hv.2.2.1;omega);have HBL:Hid (B < 32):=zh (by rw[hB];have:=hv.2.1;omega);have HDL:Hid (D < 2):=zh (by rw[hD];have:=hv.2.2.1;omega);have HCT:=zh hct;have HP:Hid (1<=n/\n<=9000):=zh ⟨hp1,hp9⟩;have HNF:=zh (show(fun j=>Value.int .u8 (((nf z j:Nat)):Int))=(fun j=>Value.int .u8 ((nf z j:Nat):Int))from rfl);clear hT hr hz hig hB hD hv hct hp1 hp9 hcm HNF;go_enter Tryz.func46,Tryz.ntmps46;go_upto_region 8 with (fail)
 obtain⟨hb,hhb⟩:=af w.heap.size
 have HHB:=zh hhb;refine ah (fun V=>ae V hb 5 #[.int .u8 (128+(ct:Int) / 256 % 16),.int .u8 ((ct:Int) % 256)]/\Below w.heap.size w V) ⟨by rw[hhb];exact ae.new _ _ _,(Below.refl _ w).alloc aB _⟩ ?_;rintro V ⟨b1,b2⟩;have B1:=zh b1;have B2:=zh b2;have HCL:=zh (bB A n c z V (by have:=HP.out;omega) (HR.out.next b2));rw[<-hhb];clear b1 b2 hhb c35;go_upto_region 9 with (go_at_call 39;refine(HCL.out).mono ?_;rintro e V2 ⟨A2,c2,rfl,hc2,hR2,hF2,hbk⟩;have HR2:=zh hR2;have HF2:=zh hF2;have HBK:=zh hbk;clear hc2 hR2 hF2 hbk)
 have T2:=zh (HT.out.below (B2.out.trans (HBK.out.mono B2.out.size)));have c34:V2.cell? ⟨g,34,none⟩=some (.bool false):=(T2.out.cC (j:=34) (by decide)).trans (by rw[show s.C.cell 34=.bool s.C.ig from rfl,HIG.out]);go_upto_region 14 with (fail)
 have HBW:=zh (B2.out.trans (HBK.out.mono B2.out.size));have HBH:=zh (B1.out.below HBK.out B1.out.lt);obtain⟨w0,hw0⟩:=af V2.drew
 have hb0:Below V2.heap.size V2 w0:=by rw[hw0];exact(Below.refl _ _).drew
 have HKR:=zh (show ∀W',Below V2.heap.size V2 W'->W'.rangeAt g 2 (am (nf s.C.key)).toList from fun W' hW j v hv=>by
  have hj:j < 16:=by have:=(List.getElem?_eq_some_iff.1 hv).1;rw[Array.length_toList,ag]at this;exact this
  rw[(T2.out.below hW).cC (j:=2+j) (by omega),<-hv,Array.getElem?_toList,aI _ hj];unfold aP.cell;rw[if_neg (by omega),if_neg (by omega),if_pos (by omega),show 2+j-2=j by omega,bO hok.key hj])
 have HC0:=zh (show ∀W',Below V2.heap.size V2 W'->W'.cell? ⟨g,0,none⟩=some (.int .i64 (B:Int))from fun W' hW=>((T2.out.below hW).cC (j:=0) (by decide)).trans (by rw[show s.C.cell 0=.int .i64 s.C.b from rfl,HBI.out]));have HC1:=zh (show ∀W',Below V2.heap.size V2 W'->W'.cell? ⟨g,1,none⟩=some (.int .i64 (D:Int))from fun W' hW=>((T2.out.below hW).cC (j:=1) (by decide)).trans (by rw[show s.C.cell 1=.int .i64 s.C.d from rfl,HDI.out]));have HS16:Hid ((Tryz.prog.info? 23).map (·.size)=some (am (nf s.C.key)).toList.length):=zh (by rw[Array.length_toList,ag];kernel_rfl);have HUK:=zh Tryz.underlying23;have HCR:=zh (fP (nf s.C.key) ct B D HKL.out HCT.out HBL.out HDL.out A2 n c2 (nf z) HP.out.1 (by have:=HP.out;omega) (fun j hj=>eH HZ.out hj) w0 (av.congr (HR2.out.next hb0) (fun j hj=>by rw[bO HZ.out hj])));obtain⟨KB,hKB⟩:∃q,q=am (nf s.C.key):=⟨_,rfl⟩
 rw[<-hKB]at HKR HS16 HCR;clear hKB;refine wp_region_held_drew (S:=fun w'=>Below V2.heap.size V2 w') (by kernel_rfl) ((Below.refl _ V2).drew) (fun hHeld=>?_);rw[<-hw0];rw[<-hw0]at hHeld;clear hw0 c34;refine(bL (i:=0) (oi:=⟨some 93,_,_,_,_,_⟩) (v:=.pointer (some ⟨g,0,none⟩)) rfl (Or.inl ⟨by rfl,fun W hW=>(by rfl)⟩) (by assumption) ?_)
 try simp only[Act.put,List.setIfInBounds_toArray,List.set_cons_succ,List.set_cons_zero]
 refine(bL (i:=1) (oi:=⟨some 94,_,_,_,_,_⟩) (v:=.pointer (some ⟨g,0,none⟩)) rfl (Or.inl ⟨by rfl,fun W hW=>(by go_simp)⟩) (by assumption) ?_)
 try simp only[Act.put,List.setIfInBounds_toArray,List.set_cons_succ,List.set_cons_zero]
 refine(bL (i:=2) (oi:=⟨some 95,_,_,_,_,_⟩) (v:=.pointer (some ⟨g,0,none⟩)) rfl (Or.inl ⟨by rfl,fun W hW=>(by go_simp)⟩) (by assumption) ?_)
 try simp only[Act.put,List.setIfInBounds_toArray,List.set_cons_succ,List.set_cons_zero]
 refine(bL (i:=3) (oi:=⟨some 96,_,_,_,_,_⟩) (v:=.pointer (some ⟨g,2,none⟩)) rfl (Or.inl ⟨by rfl,fun W hW=>(by go_simp)⟩) (by assumption) ?_)
 try simp only[Act.put,List.setIfInBounds_toArray,List.set_cons_succ,List.set_cons_zero]
 refine'(bL (i:=4) (oi:=⟨some 97,_,_,_,_,_⟩) (v:=_) rfl (yieldsIf_load_mid (by rfl) _ _ rfl g 2 rfl KB.toList _ (fun w h=>HKR.out w h) HUK.out rfl HS16.out) (by assumption) ?_)
 try simp only[Act.put,List.setIfInBounds_toArray,List.set_cons_succ,List.set_cons_zero]
 refine(bL (i:=5) (oi:=⟨some 98,_,_,_,_,_⟩) (v:=.int .u32 ct) rfl (Or.inl ⟨by rfl,fun W hW=>(by rfl)⟩) (by assumption) ?_)
 try simp only[Act.put,List.setIfInBounds_toArray,List.set_cons_succ,List.set_cons_zero]
 refine(bL (i:=6) (oi:=⟨some 99,_,_,_,_,_⟩) (v:=.pointer (some ⟨g,0,none⟩)) rfl (Or.inl ⟨by rfl,fun W hW=>(by rfl)⟩) (by assumption) ?_)
 try simp only[Act.put,List.setIfInBounds_toArray,List.set_cons_succ,List.set_cons_zero]
 refine(bL (i:=7) (oi:=⟨some 100,_,_,_,_,_⟩) (v:=.pointer (some ⟨g,0,none⟩)) rfl (Or.inl ⟨by rfl,fun W hW=>(by go_simp)⟩) (by assumption) ?_)
 try simp only[Act.put,List.setIfInBounds_toArray,List.set_cons_succ,List.set_cons_zero]
 refine(bL (i:=8) (oi:=⟨some 101,_,_,_,_,_⟩) (v:=.pointer (some ⟨g,0,none⟩)) rfl (Or.inl ⟨by rfl,fun W hW=>(by go_simp)⟩) (by assumption) ?_)
 try simp only[Act.put,List.setIfInBounds_toArray,List.set_cons_succ,List.set_cons_zero]
 refine(bL (i:=9) (oi:=⟨some 102,_,_,_,_,_⟩) (v:=.pointer (some ⟨g,0,none⟩)) rfl (Or.inl ⟨by rfl,fun W hW=>(by go_simp)⟩) (by assumption) ?_)
 try simp only[Act.put,List.setIfInBounds_toArray,List.set_cons_succ,List.set_cons_zero]
 refine(bL (i:=10) (oi:=⟨some 103,_,_,_,_,_⟩) (v:=.int .i64 (B:Int)) rfl (Or.inl ⟨by rfl,fun W hW=>(by have:=HC0.out W hW;go_simp)⟩) (by assumption) ?_)
 try simp only[Act.put,List.setIfInBounds_toArray,List.set_cons_succ,List.set_cons_zero]
 refine(bL (i:=11) (oi:=⟨some 104,_,_,_,_,_⟩) (v:=.pointer (some ⟨g,0,none⟩)) rfl (Or.inl ⟨by rfl,fun W hW=>(by rfl)⟩) (by assumption) ?_)
 try simp only[Act.put,List.setIfInBounds_toArray,List.set_cons_succ,List.set_cons_zero]
 refine(bL (i:=12) (oi:=⟨some 105,_,_,_,_,_⟩) (v:=.pointer (some ⟨g,0,none⟩)) rfl (Or.inl ⟨by rfl,fun W hW=>(by go_simp)⟩) (by assumption) ?_)
 try simp only[Act.put,List.setIfInBounds_toArray,List.set_cons_succ,List.set_cons_zero]
 refine(bL (i:=13) (oi:=⟨some 106,_,_,_,_,_⟩) (v:=.pointer (some ⟨g,0,none⟩)) rfl (Or.inl ⟨by rfl,fun W hW=>(by go_simp)⟩) (by assumption) ?_)
 try simp only[Act.put,List.setIfInBounds_toArray,List.set_cons_succ,List.set_cons_zero]
 refine(bL (i:=14) (oi:=⟨some 107,_,_,_,_,_⟩) (v:=.pointer (some ⟨g,1,none⟩)) rfl (Or.inl ⟨by rfl,fun W hW=>(by go_simp)⟩) (by assumption) ?_)
 try simp only[Act.put,List.setIfInBounds_toArray,List.set_cons_succ,List.set_cons_zero]
 refine(bL (i:=15) (oi:=⟨some 108,_,_,_,_,_⟩) (v:=.int .i64 (D:Int)) rfl (Or.inl ⟨by rfl,fun W hW=>(by have:=HC1.out W hW;go_simp)⟩) (by assumption) ?_)
 try simp only[Act.put,List.setIfInBounds_toArray,List.set_cons_succ,List.set_cons_zero]
 refine(bL (i:=16) (oi:=⟨some 109,_,_,_,_,_⟩) (v:=.slice A2 n c2) rfl (Or.inl ⟨by rfl,fun W hW=>(by rfl)⟩) (by assumption) ?_)
 try simp only[Act.put,List.setIfInBounds_toArray,List.set_cons_succ,List.set_cons_zero]
 refine bh (i:=17) (x:=some 110) rfl fun K hK=>?_;go_simp;refine(HCR.out).mono ?_;rintro e w3 ⟨A3,c3,rfl,hc3,hF3,hR3,hB3⟩;dsimp only;have HR3:=zh hR3;have HB3:=zh hB3;have H3:Below V2.heap.size V2 w3:=hHeld.trans (hB3.mono hb0.size);refine hK.out _ _ H3 (fun hHeld=>?_);clear hK K hR3 hF3 hc3 hB3
 try simp only[Act.put,List.setIfInBounds_toArray,List.set_cons_succ,List.set_cons_zero]
 refine(bL (i:=18) (oi:=⟨some 92,_,_,_,_,_⟩) (v:=.tuple #[.slice A3 n c3,.int .i64 0]) rfl (Or.inl ⟨by rfl,fun W hW=>(by rfl)⟩) (by assumption) ?_)
 try simp only[Act.put,List.setIfInBounds_toArray,List.set_cons_succ,List.set_cons_zero]
 refine(bL (i:=19) (oi:=⟨some 111,_,_,_,_,_⟩) (v:=.slice A3 n c3) rfl (Or.inl ⟨by rfl,fun W hW=>(by go_simp)⟩) (by assumption) ?_)
 try simp only[Act.put,List.setIfInBounds_toArray,List.set_cons_succ,List.set_cons_zero]
 refine(bL (i:=21) (oi:=⟨some 15,_,_,_,_,_⟩) (v:=.slice A3 n c3) rfl (Or.inl ⟨by rfl,fun W hW=>(by rfl)⟩) (by assumption) ?_)
 try simp only[Act.put,List.setIfInBounds_toArray,List.set_cons_succ,List.set_cons_zero]
 refine(bL (i:=20) (oi:=⟨some 112,_,_,_,_,_⟩) (v:=.int .i64 0) rfl (Or.inl ⟨by rfl,fun W hW=>(by go_simp)⟩) (by assumption) ?_)
 try simp only[Act.put,List.setIfInBounds_toArray,List.set_cons_succ,List.set_cons_zero]
 refine(bL (i:=22) (oi:=⟨some 16,_,_,_,_,_⟩) (v:=.int .i64 0) rfl (Or.inl ⟨by rfl,fun W hW=>(by rfl)⟩) (by assumption) ?_)
 try simp only[Act.put,List.setIfInBounds_toArray,List.set_cons_succ,List.set_cons_zero]
 refine wpAnyH_done (by kernel_rfl) ?_ _;have HH3:=zh H3;clear H3 hHeld;go_upto_region 17 with (fail)
 have HB3:=zh (HBH.out.below HH3.out HBH.out.lt);have HSH:=zh (show SL w3 5 1 (some ⟨hb,0,none⟩) 2 2 [.int .u8 (128+(ct:Int) / 256 % 16),.int .u8 ((ct:Int) % 256)]from ⟨rfl,.inr ⟨hb,0,_,rfl,HB3.out,Nat.le_refl _,by unfold maxLen;omega,by simp,fun j hj=>by rw[Nat.zero_add];simp⟩⟩);obtain⟨lb,lo,hA3,hlb,hlc⟩:=HR3.out HP.out.1;subst hA3;have HLC:=zh hlc;obtain⟨CF,hCF⟩:=af (ir (nf s.C.key) ct B D (nf z))
 have HCF:=zh hCF;rw[<-hCF]at HLC;obtain⟨i0,hi,hz0,hz1,hz2⟩:=info_parts Tryz.infoByte;have HSRC:Hid (Src Tryz.prog 1 44 (.slice (some ⟨lb,lo,none⟩) n c3) n ((List.range n).map fun j=>.int .u8 ((CF j:Nat):Int)) w3):=zh (Src.ofSlice _ Tryz.underlying44 ⟨lb,lo,none⟩ n c3 _ (by simp) (fun j u hu=>by
   have hj:j < n:=by have:=(List.getElem?_eq_some_iff.1 hu).1;simpa using this
   rw[Addr.add_lit,HLC.out j hj,<-hu];simp[hj]) (fun u hu=>by
    obtain⟨j,_,rfl⟩:=List.mem_map.1 hu
    rfl))
 clear hlc hCF;go_wp2_with (refine aD rfl _ _ _ _ rfl w3 5 i0 (.int .u8 0) 1 1 Tryz.underlying44 hi hz0 hz1 hz2 rfl (some ⟨hb,0,none⟩) 2 2 _ rfl HSH.out _ rfl n ((List.range n).map fun j=>.int .u8 ((CF j:Nat):Int)) HSRC.out HP.out.1 (by have:=HP.out;unfold maxLen;omega) (by have:=HP.out;omega) ?_;intro A9 c9 wA hSL9 hK9 hA9;have HSL9:=zh hSL9;have HK9:=zh hK9;have HA9:=zh hA9;clear hSL9 hK9 hA9);go_ret2;have hw3:w.heap.size<=w3.heap.size:=bj HBW.out.size HH3.out.size;have hpn:aZ s.C n=2+n:=by unfold aZ i5;rw[HIG.out];rfl
 refine⟨A9,c9,by rw[hpn];rfl,by rw[hpn];exact HSL9.out.le,fun a e=>⟨?_,by obtain⟨cur,h⟩:=HSL9.out.obj e;exact⟨cur,_,h⟩⟩,?_,aa.below (HBW.out.trans (HH3.out.mono HBW.out.size)) HK9.out (fun k ⟨a,ha,e⟩=>by cases ha;rw[e];exact Nat.le_of_eq HHB.out.symm) hw3⟩
 ·rcases HA9.out a e with ⟨a',ha',e'⟩ | hge
  ·cases ha'
   rw[e',HHB.out]
   exact Nat.le_refl _
  ·omega
 ·rw[hpn];refine(gv HSL9.out (fun j hj=>?_)).more aB;unfold cA bQ;by_cases hj2:j < 2
  ·rw[if_pos hj2,List.getElem?_append_left (by simpa using hj2)];rcases (by omega:j=0\/j=1)with rfl | rfl
   ·simp[gi]
   ·simp[gi]
  ·rw[if_neg hj2,List.getElem?_append_right (by simp;omega)];have hjn:j-2 < n:=by omega
   rw[jM HIG.out hjn,<-HB.out,<-HD.out,<-HCF.out];simp[hjn]
theorem gH:∀{l:List PV} {i:Nat} {p:PV},l[i]? = some p->p.rep=true->(∀j,j < i->∀e,l[j]? = some e->e.rep=false)->az l=some (i,p)
 | [],i,p,h,_,_=>by simp at h
 | q :: r,0,p,h,hp,_=>by
  have:q=p:=by simpa using h
  subst this;unfold az;rw[if_pos hp]
 | q :: r,i+1,p,h,hp,hno=>by
  have hq:=hno 0 (by omega) q rfl;unfold az;rw[if_neg (by rw[hq];decide),gH (l:=r) (i:=i) (p:=p) (by simpa using h) hp (fun j hj e he=>hno (j+1) (by omega) e (by simpa using he))]
  rfl
theorem gO:∀{l:List PV},(∀e,e∈l->e.rep=false)->az l=none
 | [],_=>rfl
 | q :: r,h=>by
  unfold az;rw[if_neg (by rw[h q List.mem_cons_self];decide),gO (fun e he=>h e (List.mem_cons_of_mem _ he))]
  rfl
def cr (lp:List PE) (k:Nat):Bool:=match lp[k]? with | some e=>e.v.rep | none=>false
theorem bv (lp:List PE):(∃(i:Nat) (e:PE),lp[i]? = some e/\ap (cr lp) 0 lp.length=(i:Int)/\az (lp.map (·.v))=some (i,e.v))\/(ap (cr lp) 0 lp.length = -1/\az (lp.map (·.v))=none):=by
 rcases eh (cr lp) lp.length with ⟨i,hi,hf,hp,hno⟩ | ⟨hf,hno⟩
 ·refine .inl ⟨i,lp[i],List.getElem?_eq_getElem hi,hf,gH (by rw[List.getElem?_map,List.getElem?_eq_getElem hi];rfl) ?_ (fun j hj e he=>?_)⟩
  ·unfold cr at hp;rw[List.getElem?_eq_getElem hi]at hp
   exact hp
  ·have h1:=hno j hj;have hjl:j < lp.length:=by omega
   unfold cr at h1;rw[List.getElem?_eq_getElem hjl]at h1;rw[List.getElem?_map,List.getElem?_eq_getElem hjl]at he;have:lp[j].v=e:=by simpa using he
   rw[<-this]
   exact h1
 ·refine .inr ⟨hf,gO (fun e he=>?_)⟩;obtain⟨x,hx,rfl⟩:=List.mem_map.1 he;obtain⟨j,hj,rfl⟩:=List.mem_iff_getElem.1 hx;have h1:=hno j hj;unfold cr at h1;rw[List.getElem?_eq_getElem hj]at h1
  exact h1
theorem rZ (y:Int) (A:Option Addr) (n c:Nat) (r:Bool) (w:World):Calls Tryz.prog 45 #[.agg #[.int .u32 y,.slice A n c,.bool r]] w fun e w'=>e=.returned (.bool r)/\Below w.heap.size w w':=by
 go_enter Tryz.func45,Tryz.ntmps45;go_wp2;go_ret
 exact⟨rfl,bR _⟩
theorem bz (A:Option Addr) (n c:Nat) (lp:List PE) (hn:n=lp.length) (w:World) (h:SL w 94 3 A n c (lp.flatMap PE.cells)) :
  Calls Tryz.prog 44 #[.slice A n c,.func (.func 45) #[] #[]] w fun e w'=>e=.returned (.int .i64 (ap (cr lp) 0 n))/\Below w.heap.size w w':=by
 have hcm:=h.cmax;have hle:=h.le;unfold maxLen at hcm;have HSL:=zh h;obtain⟨F,hF⟩:=af (cr lp)
 have HF0:=zh hF;have HN:=zh hn;rw[<-hF];clear h hF hn;go_enter Tryz.func44,Tryz.ntmps44;go_wp2;go_loopw [8] (fun v wr=>∃k:Nat,k<=n/\v=.int .i64 k/\ap F 0 n=ap F k (n-k)/\Below w.heap.size w wr) (fun v _=>n-(intOf v).toNat)
 case atStart=>exact⟨0,by omega,rfl,rfl,Below.refl _ _⟩
 case round=>
  obtain⟨k,hk,rfl,hfw,hb⟩:=hrel;have HF:=zh hfw;have HB:=zh hb;clear hfw hb;by_cases hlt2:k < n
  ·obtain⟨e0,he0⟩:∃e0,lp[k]? = some e0:=⟨lp[k]'(by have:=HN.out;omega),by simp[HN.out ▸ hlt2]⟩
   have hS:=HSL.out.next HB.out;obtain⟨b,o,hA,hbl⟩:=hS.some_ (by omega);have c0:=hS.cell hA (j:=k*3+0) (by omega);have c1:=hS.cell hA (j:=k*3+1) (by omega);have c2:=hS.cell hA (j:=k*3+2) (by omega);rw[be PE.cells 3 PE.len lp k _ e0 he0 (by omega)]at c0 c1 c2;have hFk:F k=e0.v.rep:=by rw[HF0.out];unfold cr;rw[he0]
   obtain⟨⟨y,pn,pz,pr⟩,PA,pc⟩:=e0;simp only[PE.cells,List.getElem?_cons_zero,List.getElem?_cons_succ,Nat.add_zero]at c0 c1 c2;dsimp only at hFk;have HC:=zh (rZ y PA pn pc pr wr);have HST:=zh (dC F k n hlt2);obtain⟨bb,hbb⟩:=af pr
   rw[<-hbb]at HC hFk c2;have HFk:=zh hFk;subst hA;have c1':wr.cell? ⟨b,o+(k*3+1),none⟩=_:=c1;clear hbb hFk hS he0;have k0:(0:Int)<=(k:Int):=by omega
   have k1:(k:Int) < (n:Int):=by omega
   rw[<-Nat.add_assoc]at c1 c2
   cases bb
   ·have HS2:=zh (HST.out.trans (if_neg (by rw[HFk.out];decide)));go_wp2_with (go_at_call 45;refine(HC.out).mono ?_;rintro e w2 ⟨rfl,hB2⟩;have HB2:=zh (HB.out.trans (hB2.mono HB.out.size));clear hB2);go_roundw
    case rel=>exact⟨k+1,by omega,by go_num,by rw[HF.out,HS2.out],HB2.out⟩
    case measure=>simp[intOf];omega
   ·have HS2:=zh (HST.out.trans (if_pos HFk.out));go_wp2_with (go_at_call 45;refine(HC.out).mono ?_;rintro e w2 ⟨rfl,hB2⟩;have HB2:=zh (HB.out.trans (hB2.mono HB.out.size));clear hB2);go_ret
    exact⟨cZ (by rw[HF.out,HS2.out]),HB2.out⟩
  ·obtain rfl:k=n:=by omega
   have HF2:=zh (show ap F 0 k = -1 by rw[HF.out,Nat.sub_self];rfl);clear HF;go_wp2;go_ret
   exact⟨cZ HF2.out.symm,HB.out⟩
theorem SL.drop {w:World} {e:TypeId} {sz b o n c:Nat} {xs:List Value} (h:SL w e sz (some ⟨b,o,none⟩) n c xs) (k:Nat) (hk:k<=n):SL w e sz (if c=k then some ⟨b,o,none⟩ else some ⟨b,o+k*sz,none⟩) (n-k) (c-k) (xs.drop (k*sz)):=by
 have hm:k*sz<=n*sz:=Nat.mul_le_mul_right _ hk;rcases h.at_ with ⟨h1,_⟩ | ⟨b',o',cur,h1,h2,h3,h4,h5,h6⟩
 ·cases h1
 cases h1
 refine⟨by rw[List.length_drop,h.len,Nat.sub_mul],.inr ?_⟩;have hcm:k*sz<=c*sz:=Nat.mul_le_mul_right _ (by omega);by_cases hc:c=k
 ·rw[if_pos hc];have hnk:n-k=0:=by omega
  have hck:c-k=0:=by omega
  exact⟨b,o,cur,rfl,h2,by omega,by omega,by rw[hck];omega,fun j hj=>by rw[hnk]at hj;omega⟩
 ·rw[if_neg hc];refine⟨b,o+k*sz,cur,rfl,h2,by omega,by omega,by rw[Nat.sub_mul];omega,fun j hj=>?_⟩;rw[Nat.sub_mul]at hj;rw[Nat.add_assoc,h6 _ (by omega),List.getElem?_drop]
theorem iV (lq:List WE) (k:Nat):(lq.flatMap WE.cells).drop (k*2)=(lq.drop k).flatMap WE.cells:=by
 induction lq generalizing k with
 | nil=>simp
 | cons x r ih=>
  cases k with
  | zero=>simp
  | succ k=>rw[List.flatMap_cons,List.drop_succ_cons,<-ih k,show(k+1)*2=(WE.cells x).length+k*2 from by show _=2+k*2;omega,List.drop_length_add_append]
theorem SL.setOne {w:World} {e:TypeId} {sz b o n c:Nat} {xs:List Value} (h:SL w e sz (some ⟨b,o,none⟩) n c xs) (q:Nat) (hq:q < n*sz) (v:Value):SL (w.setCell ⟨b,o+q,none⟩ v) e sz (some ⟨b,o,none⟩) n c (xs.set q v):=by
 rcases h.at_ with ⟨h1,_⟩ | ⟨b',o',cur,h1,h2,h3,h4,h5,h6⟩
 ·cases h1
 cases h1
 have hcn:n*sz<=c*sz:=Nat.mul_le_mul_right _ h3;refine⟨by rw[List.length_set,h.len],.inr ⟨b,o,_,rfl,(show ae w b e cur from h2).set_ (o+q) v,h3,h4,by simpa using h5,fun j hj=>?_⟩⟩;by_cases hjq:j=q
 ·subst hjq;rw[List.getElem?_set_self (by rw[h.len];exact hj),Array.getElem?_setIfInBounds_self_of_lt (by omega)]
 ·rw[List.getElem?_set_ne (fun e=>hjq e.symm),Array.getElem?_setIfInBounds_ne (by omega),h6 j hj]
theorem nt (lp:List PE) (i:Nat) (e:PE) (h:lp[i]? = some e):(lp.flatMap PE.cells).set (i*3+2) (.bool false)=((lp.set i { e with v:={ e.v with rep:=false } }).flatMap PE.cells):=by
 have hil:i < lp.length:=(List.getElem?_eq_some_iff.1 h).1;apply List.ext_getElem?;intro j;rw[iI PE.cells 3 PE.len lp i hil];by_cases hj:j=i*3+2
 ·subst hj;rw[List.getElem?_set_self (by rw[cj PE.cells 3 PE.len];omega),if_pos ⟨by omega,by omega⟩,show i*3+2-i*3=2 by omega]
  rfl
 ·rw[List.getElem?_set_ne (fun e=>hj e.symm)];by_cases hin:i*3<=j/\j < i*3+3
  ·rw[if_pos hin];obtain⟨d,rfl⟩:∃d,j=i*3+d:=⟨j-i*3,by omega⟩
   rw[be PE.cells 3 PE.len lp i d e h (by omega),show i*3+d-i*3=d by omega];rcases (by omega:d=0\/d=1)with rfl | rfl<;>rfl
  ·rw[if_neg hin]
def j4 (g:Nat) (C:aP):Prop:=∀(s:TS) (W R:Nat->Prop) (V:World),s.C=C->bC V g s W R->∀(ct:Nat),ct < 4294967296->∀(A:Option Addr) (n c:Nat) (z:Nat->Int),1<=n->n<=9000->av V V.heap.size A n (fun j=>.int .u8 (z j))->(∀j,j < n->0<=z j/\z j < 256)->
 Calls Tryz.prog 46 #[.pointer (some ⟨g,0,none⟩),.int .u32 ct,.slice A n c] V (eq C ct n z V)
theorem cX (g:Nat) (C:aP) (hok:C.Ok) (hv:C.Valid) (hig:C.ig=false) (hcm:C.cm=false):j4 g C:=fun s W R V hC hI ct hct A n c z h1 h9 hr hz=>by
 subst hC
 exact fY g s W R V hI hok hv hig hcm ct hct A n c z h1 h9 hr hz
def iD (W R:Nat->Prop) (w:World) (g:Nat) (r:NX) (e:Ending) (w':World):Prop:=
 ∃A c W' R',e=.returned (.tuple #[.slice A r.n c,.int .u32 r.ct,.int .i64 r.e])/\r.n<=c/\av w' w'.heap.size A r.n (fun j=>.int .u8 ((r.z j:Nat):Int))/\bC w' g r.s W' R'/\(∀k,W' k->W k\/w.heap.size<=k)/\(∀k,R' k->R k\/w.heap.size<=k)/\aa W w w'/\(∀a,A=some a->w.heap.size<=a.block/\¬W' a.block/\¬R' a.block/\∃cur t,w'.heap[a.block]? = some (.cells cur t (0,0)))
theorem cT {W R:Nat->Prop} {w w':World} {g:Nat} {s:TS} (h:cV W R w w' g s) (e:Int):iD W R w g ⟨0,zB,0,e,s⟩ (.returned (.tuple #[.slice none 0 0,.int .u32 0,.int .i64 e])) w':=by
 obtain⟨W',R',h1,h2,h3,h4⟩:=h
 exact⟨none,0,W',R',rfl,Nat.le_refl _,fun hn=>absurd hn (by show ¬0 < 0;omega),h1,h2,h3,h4,fun a e=>by cases e⟩
theorem ba.putP {w w1:World} {g:Nat} {s:TS} {W R:Nat->Prop} {qA:Option Addr} {qc:Nat} {lq:List WE} {pA:Option Addr} {pc:Nat} {lp lp':List PE} {ub cb:Nat} (h:ba w g s W R qA qc lq pA pc lp ub cb)
  (hk:aa (fun k=>∃a,pA=some a/\k=a.block) w w1) (hs:SL w1 94 3 pA lp.length pc (lp'.flatMap PE.cells)) (hl:lp'.length=lp.length)
  (he:∀e,e∈lp'->bE w1 R e.A e.v.n e.c e.v.z) (pr:∀e,e∈lp'->0<=e.v.ct/\e.v.ct < 4294967296):ba w1 g { s with P:=lp'.map (·.v) } W R qA qc lq pA pc lp' ub cb:=by
 have hs1:∀a,qA=some a->¬∃b,pA=some b/\a.block=b.block:=fun a ha ⟨b,hb,e⟩=>h.qp a b ha hb e;have pk:∀{A:Option Addr} {n c:Nat} {z:Nat->Int},bE w R A n c z->bE w1 R A n c z:=fun hp=>hp.keep hk (fun k ⟨a,ha,e⟩ hr=>h.dis k (by rw[e];exact h.wp a ha) hr);refine⟨?_,h.qv,rfl,h.q.keepF hk hs1,by rw[hl];exact hs,h.u.keep (hk.block ub h.u.lt (fun⟨a,ha,e⟩=>h.pu a ha e.symm)),(hk.block cb (h.win _ h.wc) (fun⟨a,ha,e⟩=>h.kp a ha e)).trans h.k,
  fun e he2=>pk (h.qe e he2),he,(fun e he=>(by obtain⟨x,hx,rfl⟩:=List.mem_map.1 he;exact pr x hx)),h.wg,h.wu,h.wc,h.wq,h.wp,h.kg,h.ku,h.kq,h.kp,h.dis,
  fun k hw=>bg (h.win k hw) hk.size,fun k hw=>bg (h.rin k hw) hk.size,h.now0,h.next0⟩
 rw[hl]
 exact hk.blk h.blk (fun⟨a,ha,e⟩=>h.gp a ha e)
theorem mF (g:Nat) (s:TS) (W R:Nat->Prop) (w:World) (h:bC w g s W R) (hf:s.Fine) (t:Int) (ht1:-9223372036854775808<=t) (ht2:t<=9223372036854775807) (ct:1073741824<=t) :
  Calls Tryz.prog 13 #[.pointer (some ⟨g,0,none⟩),.int .i64 t] w (iD W R w g (s.send t)):=by
 have HTK:=zh (aG g s W R w h hf t ht1 ht2);unfold TS.send;rw[if_pos ct];rw[if_pos ct,if_pos ct]at HTK;clear h hf;go_enter Tryz.func13,Tryz.ntmps13;go_wp2_with (go_at_call 42;refine(HTK.out).mono ?_;rintro e w1 ⟨rfl,hO⟩;have HO:=zh hO;clear hO);go_ret3
 exact cT HO.out 2
theorem n7 (g:Nat) (s:TS) (W R:Nat->Prop) (w:World) (h:bC w g s W R) (hf:s.Fine) (t:Int) (ht1:-9223372036854775808<=t) (ht2:t<=9223372036854775807) (ct:¬1073741824<=t) (hb:j4 g s.C) (i:Nat) (p:PV) (hrep:az s.P=some (i,p)) :
  Calls Tryz.prog 13 #[.pointer (some ⟨g,0,none⟩),.int .i64 t] w (iD W R w g (s.send t)):=by
 have HBD:=zh hb;have HRP:=zh hrep;unfold TS.send;rw[if_neg ct,hrep];dsimp only;have HTK:=zh (aG g s W R w h hf t ht1 ht2);rw[if_neg ct,if_neg ct]at HTK;have HF1:=zh (hf.tick t);clear h hf;obtain⟨s1,hs1⟩:=af (s.tick t)
 have HS1:=zh hs1;have HC1:Hid (s1.C=s.C):=zh (by rw[hs1];rfl);have HP1:Hid (s1.P=s.P):=zh (by rw[hs1];rfl);have HN1:Hid (s1.next=s.next):=zh (by rw[hs1];rfl);rw[<-hs1]at HTK HF1;clear hs1;go_enter Tryz.func13,Tryz.ntmps13;go_upto_region 4 with (go_at_call 42;refine(HTK.out).mono ?_;rintro e w1 ⟨rfl,hO⟩;have HO:=zh hO;clear hO)
 obtain⟨W1,R1,hI1,hW1,hR1,hK1⟩:=HO.out;obtain⟨qA,qc,lq,pA,pc,lp,ub,cb,hT1⟩:=hI1;have T1:=zh hT1;have HW1:=zh hW1;have HR1:=zh hR1;have HK1:=zh hK1;clear hW1 hR1 hK1;obtain⟨m,hm⟩:=af lp.length
 have HM:=zh hm;have HRI:=zh (bz pA m pc lp hm w1 (by rw[hm];exact hT1.p));have cp:=hT1.cp;rw[<-hm]at cp;have hgl:=hT1.blk.lt;have hmc:=hT1.p.le;have hcm:=hT1.p.cmax;unfold maxLen at hcm;rw[<-hm]at hmc;have m9:(m:Int)<=9223372036854775807:=by omega
 have HRC:=zh (bv lp);rw[hT1.pv,HP1.out,<-hm]at HRC;clear hT1 hm;obtain⟨pe,hpe,HF0,hv⟩:∃pe,lp[i]? = some pe/\Hid (ap (cr lp) 0 m=(i:Int))/\pe.v=p:=by
  rcases HRC.out with ⟨i',e',h1,h2,h3⟩ | ⟨_,h3⟩
  ·rw[HRP.out]at h3
   cases h3
   exact⟨e',h1,zh h2,rfl⟩
  ·rw[HRP.out]at h3
   cases h3
 subst hv;rw[HF0.out]at HRI;have him:i < m:=by rw[HM.out];exact(List.getElem?_eq_some_iff.1 hpe).1
 have HPE:=zh hpe;have i0:(0:Int)<=(i:Int):=by omega
 have i1:(i:Int) < (m:Int):=by omega
 clear hrep hpe HF0 HRC;go_upto_region 5 with (go_at_call 44;refine(HRI.out).mono ?_;rintro e w2 ⟨rfl,hB⟩;have E2:=zh hB;clear hB)
 have T2:=zh (T1.out.below E2.out);obtain⟨b,o,hpA,hbl,d0,d1,d2⟩:=T2.out.pcell HPE.out;subst hpA;have cp2:=T2.out.cp;rw[<-HM.out]at cp2;have hpr:=T2.out.pr pe.v (by rw[<-T2.out.pv];exact List.mem_map_of_mem (List.mem_of_getElem? HPE.out));obtain⟨CT,hCT⟩:∃CT:Nat,CT=pe.v.ct.toNat:=⟨_,rfl⟩
 have HCT:=zh hCT;have HCI:Hid (pe.v.ct=(CT:Int)):=zh (by rw[hCT];omega);have HCL:Hid (CT < 4294967296):=zh (by rw[hCT];omega);rw[HCI.out]at d0;have PK:=zh (T2.out.pe pe (List.mem_of_getElem? HPE.out));obtain⟨PA,hPA⟩:=af pe.A
 obtain⟨pn,hpn⟩:=af pe.v.n
 obtain⟨pz,hpz⟩:=af pe.v.z
 obtain⟨pcc,hpcc⟩:=af pe.c
 have HPN:=zh hpn;have HPZ:=zh hpz;rw[<-hPA,<-hpn,<-hpz,<-hpcc]at PK;rw[<-hPA,<-hpn,<-hpcc]at d1;clear hpr hCT hPA hpn hpz hpcc cp;go_upto_region 7 with (fail)
 obtain⟨w0,hw0⟩:=af w2.drew
 have hb0:Below w2.heap.size w2 w0:=by rw[hw0];exact(Below.refl _ _).drew
 have HD0:=zh (show ∀W',Below w2.heap.size w2 W'->W'.cell? ⟨b,o+i*3,none⟩=some (.int .u32 (CT:Int))from fun W' hW=>(hW.cell (p:=⟨b,o+i*3,none⟩) hbl).trans d0);have HD1:=zh (show ∀W',Below w2.heap.size w2 W'->W'.cell? ⟨b,o+i*3+1,none⟩=some (.slice PA pn pcc)from fun W' hW=>(hW.cell (p:=⟨b,o+i*3+1,none⟩) hbl).trans d1);have HD2:=zh d2;have HBU:=zh (HBD.out s1 W1 R1 w0 HC1.out ⟨_,_,_,_,_,_,_,_,T2.out.below hb0⟩ CT HCL.out PA pn pcc pz PK.out.pos PK.out.max (PK.out.row.next hb0) PK.out.byte);refine wp_region_held_drew (S:=fun w'=>Below w2.heap.size w2 w') (by kernel_rfl) ((Below.refl _ w2).drew) (fun hHeld=>?_);rw[<-hw0];rw[<-hw0]at hHeld;clear hw0 cp2 d0 d1 d2;refine dN (i:=0) (x:=some 36) (v:=.pointer (some ⟨g,0,none⟩)) rfl ?_;refine dN (i:=1) (x:=some 37) (v:=.pointer (some ⟨b,o+i*3,none⟩)) rfl ?_;refine bu (i:=2) (x:=some 38) (v:=.pointer (some ⟨b,o+i*3,none⟩)) rfl ?_;refine bu (i:=3) (x:=some 39) (v:=.pointer (some ⟨b,o+i*3,none⟩)) rfl ?_;refine bu (i:=4) (x:=some 40) (v:=.pointer (some ⟨b,o+i*3,none⟩)) rfl ?_;refine fC (i:=5) (x:=some 41) (v:=.int .u32 (CT:Int)) rfl (.inl ⟨by rfl,fun W hW=>(by have:=HD0.out W hW;go_simp)⟩) ?_;refine dN (i:=6) (x:=some 42) (v:=.pointer (some ⟨b,o+i*3,none⟩)) rfl ?_;refine bu (i:=7) (x:=some 43) (v:=.pointer (some ⟨b,o+i*3,none⟩)) rfl ?_;refine bu (i:=8) (x:=some 44) (v:=.pointer (some ⟨b,o+i*3,none⟩)) rfl ?_;refine bu (i:=9) (x:=some 45) (v:=.pointer (some ⟨b,o+i*3+1,none⟩)) rfl ?_;refine fC (i:=10) (x:=some 46) (v:=.slice PA pn pcc) rfl (.inl ⟨by rfl,fun W hW=>(by have:=HD1.out W hW;go_simp)⟩) ?_;refine bh (i:=11) (x:=some 47) rfl fun K hK=>?_;go_simp;refine(HBU.out).mono ?_;rintro e w3 ⟨A3,c3,rfl,hc3,hF3,hR3,hB3⟩;dsimp only;have HC3:=zh hc3;have HF3:=zh hF3;have HR3:=zh hR3;have HB3:=zh hB3;have HPD:=zh (rfl:aZ s.C pn=aZ s.C pn);obtain⟨N3,hN3⟩:=af (aZ s.C pn)
 have HN3:=zh hN3;rw[<-hN3]at HC3 HR3 ⊢;have H3:Below w2.heap.size w2 w3:=hHeld.trans (hB3.mono hb0.size);refine hK.out _ _ H3 (fun hHeld=>?_);clear hK K hR3 hF3 hc3 hB3 hN3
 try simp only[Act.put,qa,qb,qc]
 refine dN (i:=12) (x:=some 35) (v:=.tuple #[.slice A3 N3 c3,.int .i64 0]) rfl ?_;refine bu (i:=13) (x:=some 48) (v:=.slice A3 N3 c3) rfl ?_;refine dN (i:=15) (x:=some 10) (v:=.slice A3 N3 c3) rfl ?_;refine bu (i:=14) (x:=some 49) (v:=.int .i64 0) rfl ?_;refine dN (i:=16) (x:=some 11) (v:=.int .i64 0) rfl ?_;refine wpAnyH_done (by kernel_rfl) ?_ _;have HH3:=zh H3;clear H3 hHeld;have T3:=zh (T2.out.below HH3.out);have e2:w3.cell? ⟨b,o+i*3+2,none⟩=some (.bool pe.v.rep):=(HH3.out.cell (p:=⟨b,o+i*3+2,none⟩) hbl).trans HD2.out;have e0:=HD0.out w3 HH3.out;have f2:=T3.out.p.frozen rfl (o+i*3+2);have HQ:=zh (show SL (w3.setCell ⟨b,o+i*3+2,none⟩ (.bool false)) 94 3 (some ⟨b,o,none⟩) lp.length pc ((lp.set i { pe with v:={ pe.v with rep:=false } }).flatMap PE.cells)from by
  have:=T3.out.p.setOne (i*3+2) (by rw[<-HM.out];omega) (.bool false);rw[nt lp i pe HPE.out,<-Nat.add_assoc]at this
  exact this)
 have HKF:=zh ((aa.refl (F:=fun k=>∃a,(some ⟨b,o,none⟩:Option Addr)=some a/\k=a.block) (w:=w3)).setCell (p:=⟨b,o+i*3+2,none⟩) ⟨_,rfl,rfl⟩ (.bool false));have T4:=zh (T3.out.putP (lp':=lp.set i { pe with v:={ pe.v with rep:=false } }) HKF.out HQ.out (by rw[List.length_set]) (fun e he=>by
  have hk:bE w3 R1 e.A e.v.n e.c e.v.z:=by
   rcases List.mem_or_eq_of_mem_set he with h | h
   ·exact T3.out.pe e h
   ·subst h
    exact T3.out.pe pe (List.mem_of_getElem? HPE.out)
  exact hk.keep HKF.out (fun k ⟨a,ha,e2⟩ hr=>T3.out.dis k (by rw[e2];exact T3.out.wp a ha) hr)) (fun e he=>by
  rcases List.mem_or_eq_of_mem_set he with h | h
  ·exact T3.out.pr e.v (by rw[<-T3.out.pv];exact List.mem_map_of_mem h)
  ·subst h
   exact T3.out.pr pe.v (by rw[<-T3.out.pv];exact List.mem_map_of_mem (List.mem_of_getElem? HPE.out))))
 go_upto_region 11 with (fail)
 refine ah (fun V=>V=w3.setCell ⟨b,o+i*3+2,none⟩ (.bool false)) rfl ?_;intro w4 hw4;rw[<-hw4]at HQ HKF T4;have HW4:=zh hw4;clear hw4 e0 e2 f2;obtain⟨b',o',hbo,_,g0,_,_⟩:=T4.out.pcell (k:=i) (e:={ pe with v:={ pe.v with rep:=false } }) (by rw[List.getElem?_set_self (by rw[<-HM.out];exact him)])
 cases hbo
 dsimp only at g0;rw[HCI.out]at g0;go_quiet (fail);go_wp2;go_ret3;have hN:aZ s.C pe.v.n=N3:=by rw[HN3.out,HPN.out]
 have hZ:cA s.C pe.v.ct.toNat pe.v.n (nf pe.v.z)=cA s.C CT pn (nf pz):=by rw[HCT.out,HPN.out,HPZ.out]
 have hS:({ s.tick t with P:=s.P.set i { pe.v with rep:=false } }:TS)={ s1 with P:=(lp.set i { pe with v:={ pe.v with rep:=false } }).map (·.v) }:=by
  rw[List.map_set,T1.out.pv,HP1.out,<-HS1.out]
 have hsz:w1.heap.size<=w2.heap.size:=E2.out.size;have hs0:w.heap.size<=w1.heap.size:=HK1.out.size;have h4s:w2.heap.size<=w3.heap.size:=HH3.out.size;have hfr:∀a,A3=some a->w2.heap.size<=a.block:=fun a e=>bj hb0.size (HF3.out a e).1;have hbw:b < w2.heap.size:=hbl;refine⟨A3,c3,W1,R1,?_,?_,?_,?_,HW1.out,HR1.out,?_,?_⟩
 ·show _=Ending.returned (.tuple #[.slice A3 (aZ s.C pe.v.n) c3,.int .u32 pe.v.ct,.int .i64 0]);rw[hN,HCI.out]
  rfl
 ·show aZ s.C pe.v.n<=c3;rw[hN]
  exact HC3.out
 ·show av _ _ A3 (aZ s.C pe.v.n) (fun j=>.int .u8 ((cA s.C pe.v.ct.toNat pe.v.n (nf pe.v.z) j:Nat):Int));rw[hN,hZ];refine((HKF.out.row HR3.out aB (fun a e _ ⟨a',ha',e'⟩=>?_)).more HKF.out.size).next (an (Below.refl _ _) _)
  cases ha'
  have:=hfr a e;have e':a.block=b:=e';omega
 ·show bC _ g ({ s.tick t with P:=s.P.set i { pe.v with rep:=false } }:TS) W1 R1;rw[hS]
  exact⟨_,_,_,_,_,_,_,_,T4.out.below (an (Below.refl _ _) _)⟩
 ·exact((HK1.out.trans ((aa.of_below (F:=W1) (E2.out.trans (HH3.out.mono hsz))).trans (HKF.out.mono (G:=W1) (fun k ⟨a,ha,e⟩=>by rw[e];exact T3.out.wp a ha)) (fun _ _ h=>h)) (fun k hk h=>by
   rcases HW1.out k h with h | h
   ·exact h
   ·omega)).more (an (Below.refl _ _) _))
 ·intro a e;have:=hfr a e;obtain⟨cur,t,hu⟩:=(HF3.out a e).2
  exact⟨by omega,fun h=>by have:=T1.out.win _ h;omega,fun h=>by have:=T1.out.rin _ h;omega,cur,t,(HKF.out.block a.block (Array.getElem?_eq_some_iff.1 hu).1 (fun⟨a',ha',e'⟩=>by
   cases ha'
   have e':a.block=b:=e';omega)).trans hu⟩
theorem cV.next {W R:Nat->Prop} {w w1 w2:World} {g:Nat} {s:TS} (h:cV W R w w1 g s) (hb:Below w1.heap.size w1 w2):cV W R w w2 g s:=by
 obtain⟨W',R',h1,h2,h3,h4⟩:=h
 exact⟨W',R',h1.below hb,h2,h3,h4.more hb⟩
theorem mn (g:Nat) (s:TS) (W R:Nat->Prop) (w:World) (h:bC w g s W R) (hf:s.Fine) (t:Int) (ht1:-9223372036854775808<=t) (ht2:t<=9223372036854775807) (ct:¬1073741824<=t) (hrep:az s.P=none) (hq:(s.tick t).Q=[]) :
  Calls Tryz.prog 13 #[.pointer (some ⟨g,0,none⟩),.int .i64 t] w (iD W R w g (s.send t)):=by
 have HRP:=zh hrep;unfold TS.send;rw[if_neg ct,hrep];dsimp only;rw[hq];dsimp only;have HQ0:=zh hq;clear hq;have HTK:=zh (aG g s W R w h hf t ht1 ht2);rw[if_neg ct,if_neg ct]at HTK;have HF1:=zh (hf.tick t);clear h hf;obtain⟨s1,hs1⟩:=af (s.tick t)
 have HS1:=zh hs1;have HC1:Hid (s1.C=s.C):=zh (by rw[hs1];rfl);have HP1:Hid (s1.P=s.P):=zh (by rw[hs1];rfl);have HN1:Hid (s1.next=s.next):=zh (by rw[hs1];rfl);rw[<-hs1]at HTK HF1;clear hs1;go_enter Tryz.func13,Tryz.ntmps13;go_upto_region 4 with (go_at_call 42;refine(HTK.out).mono ?_;rintro e w1 ⟨rfl,hO⟩;have HO:=zh hO;clear hO)
 obtain⟨W1,R1,hI1,hW1,hR1,hK1⟩:=HO.out;obtain⟨qA,qc,lq,pA,pc,lp,ub,cb,hT1⟩:=hI1;have T1:=zh hT1;have HW1:=zh hW1;have HR1:=zh hR1;have HK1:=zh hK1;clear hW1 hR1 hK1;obtain⟨m,hm⟩:=af lp.length
 have HM:=zh hm;have HRI:=zh (bz pA m pc lp hm w1 (by rw[hm];exact hT1.p));have cp:=hT1.cp;rw[<-hm]at cp;have hgl:=hT1.blk.lt;have hmc:=hT1.p.le;have hcm:=hT1.p.cmax;unfold maxLen at hcm;rw[<-hm]at hmc;have m9:(m:Int)<=9223372036854775807:=by omega
 have HRC:=zh (bv lp);rw[hT1.pv,HP1.out,<-hm]at HRC;clear hT1 hm;have HF0:Hid (ap (cr lp) 0 m = -1):=by
  rcases HRC.out with ⟨i',e',h1,h2,h3⟩ | ⟨h2,_⟩
  ·rw[HRP.out]at h3
   cases h3
  ·exact zh h2
 rw[HF0.out]at HRI;clear hrep HF0 HRC;obtain⟨lqn,hnq⟩:=af lq.length
 have HNQ:=zh hnq;clear hnq;go_upto_region 12 with (go_at_call 44;refine(HRI.out).mono ?_;rintro e w2 ⟨rfl,hB⟩;have E2:=zh hB;clear hB)
 have T2:=zh (T1.out.below E2.out);have cq:=T2.out.cq;rw[<-HNQ.out]at cq;have hO2:=zh (show cV W R w w2 g s1 from cV.comp HW1.out HR1.out HK1.out ⟨W1,R1,⟨_,_,_,_,_,_,_,_,T2.out⟩,fun _ h=>.inl h,fun _ h=>.inl h,aa.of_below E2.out⟩);clear cp;have hn0:lqn=0:=by
  rw[HNQ.out];have:=congrArg List.length T2.out.qv;rw[HS1.out,HQ0.out,List.length_map]at this
  exact this
 subst hn0;go_wp2;go_ret3;rw[<-HS1.out]
 exact cT hO2.out 10
theorem mP (g:Nat) (s:TS) (W R:Nat->Prop) (w:World) (h:bC w g s W R) (hf:s.Fine) (t:Int) (ht1:-9223372036854775808<=t) (ht2:t<=9223372036854775807) (ct:¬1073741824<=t) (hrep:az s.P=none) (q:QV) (r:List QV) (hq:(s.tick t).Q=q :: r) (hnx:s.next=4294967296) :
  Calls Tryz.prog 13 #[.pointer (some ⟨g,0,none⟩),.int .i64 t] w (iD W R w g (s.send t)):=by
 have HRP:=zh hrep;unfold TS.send;rw[if_neg ct,hrep];dsimp only;rw[hq];dsimp only;rw[if_pos hnx];have HQ0:=zh hq;have HNX:=zh hnx;clear hq hnx;have HTK:=zh (aG g s W R w h hf t ht1 ht2);rw[if_neg ct,if_neg ct]at HTK;have HF1:=zh (hf.tick t);clear h hf;obtain⟨s1,hs1⟩:=af (s.tick t)
 have HS1:=zh hs1;have HC1:Hid (s1.C=s.C):=zh (by rw[hs1];rfl);have HP1:Hid (s1.P=s.P):=zh (by rw[hs1];rfl);have HN1:Hid (s1.next=s.next):=zh (by rw[hs1];rfl);rw[<-hs1]at HTK HF1;clear hs1;go_enter Tryz.func13,Tryz.ntmps13;go_upto_region 4 with (go_at_call 42;refine(HTK.out).mono ?_;rintro e w1 ⟨rfl,hO⟩;have HO:=zh hO;clear hO)
 obtain⟨W1,R1,hI1,hW1,hR1,hK1⟩:=HO.out;obtain⟨qA,qc,lq,pA,pc,lp,ub,cb,hT1⟩:=hI1;have T1:=zh hT1;have HW1:=zh hW1;have HR1:=zh hR1;have HK1:=zh hK1;clear hW1 hR1 hK1;obtain⟨m,hm⟩:=af lp.length
 have HM:=zh hm;have HRI:=zh (bz pA m pc lp hm w1 (by rw[hm];exact hT1.p));have cp:=hT1.cp;rw[<-hm]at cp;have hgl:=hT1.blk.lt;have hmc:=hT1.p.le;have hcm:=hT1.p.cmax;unfold maxLen at hcm;rw[<-hm]at hmc;have m9:(m:Int)<=9223372036854775807:=by omega
 have HRC:=zh (bv lp);rw[hT1.pv,HP1.out,<-hm]at HRC;clear hT1 hm;have HF0:Hid (ap (cr lp) 0 m = -1):=by
  rcases HRC.out with ⟨i',e',h1,h2,h3⟩ | ⟨h2,_⟩
  ·rw[HRP.out]at h3
   cases h3
  ·exact zh h2
 rw[HF0.out]at HRI;clear hrep HF0 HRC;obtain⟨lqn,hnq⟩:=af lq.length
 have HNQ:=zh hnq;clear hnq;go_upto_region 12 with (go_at_call 44;refine(HRI.out).mono ?_;rintro e w2 ⟨rfl,hB⟩;have E2:=zh hB;clear hB)
 have T2:=zh (T1.out.below E2.out);have cq:=T2.out.cq;rw[<-HNQ.out]at cq;have hO2:=zh (show cV W R w w2 g s1 from cV.comp HW1.out HR1.out HK1.out ⟨W1,R1,⟨_,_,_,_,_,_,_,_,T2.out⟩,fun _ h=>.inl h,fun _ h=>.inl h,aa.of_below E2.out⟩);clear cp;have hnq1:1<=lqn:=by
  rw[HNQ.out];have:=congrArg List.length T2.out.qv;rw[HS1.out,HQ0.out,List.length_map,List.length_cons]at this;omega
 have q1:¬((lqn:Int)=0):=by omega
 have cn:=T2.out.cnext;rw[HN1.out,HNX.out]at cn;go_wp2;go_ret3;rw[<-HS1.out]
 exact cT hO2.out 460
theorem mT (g:Nat) (s:TS) (W R:Nat->Prop) (w:World) (h:bC w g s W R) (hf:s.Fine) (t:Int) (ht1:-9223372036854775808<=t) (ht2:t<=9223372036854775807) (ct:¬1073741824<=t) (hrep:az s.P=none) (q:QV) (r:List QV) (hq:(s.tick t).Q=q :: r) (hnx:s.next ≠ 4294967296) (hfu:s.full=true) :
  Calls Tryz.prog 13 #[.pointer (some ⟨g,0,none⟩),.int .i64 t] w (iD W R w g (s.send t)):=by
 have HRP:=zh hrep;unfold TS.send;rw[if_neg ct,hrep];dsimp only;rw[hq];dsimp only;rw[if_neg hnx,if_pos hfu];have HQ0:=zh hq;have HNX:=zh hnx;have HFU:=zh hfu;clear hq hnx hfu;have HTK:=zh (aG g s W R w h hf t ht1 ht2);rw[if_neg ct,if_neg ct]at HTK;have HF1:=zh (hf.tick t);clear h hf;obtain⟨s1,hs1⟩:=af (s.tick t)
 have HS1:=zh hs1;have HC1:Hid (s1.C=s.C):=zh (by rw[hs1];rfl);have HP1:Hid (s1.P=s.P):=zh (by rw[hs1];rfl);have HN1:Hid (s1.next=s.next):=zh (by rw[hs1];rfl);rw[<-hs1]at HTK HF1;clear hs1;go_enter Tryz.func13,Tryz.ntmps13;go_upto_region 4 with (go_at_call 42;refine(HTK.out).mono ?_;rintro e w1 ⟨rfl,hO⟩;have HO:=zh hO;clear hO)
 obtain⟨W1,R1,hI1,hW1,hR1,hK1⟩:=HO.out;obtain⟨qA,qc,lq,pA,pc,lp,ub,cb,hT1⟩:=hI1;have T1:=zh hT1;have HW1:=zh hW1;have HR1:=zh hR1;have HK1:=zh hK1;clear hW1 hR1 hK1;obtain⟨m,hm⟩:=af lp.length
 have HM:=zh hm;have HRI:=zh (bz pA m pc lp hm w1 (by rw[hm];exact hT1.p));have cp:=hT1.cp;rw[<-hm]at cp;have hgl:=hT1.blk.lt;have hmc:=hT1.p.le;have hcm:=hT1.p.cmax;unfold maxLen at hcm;rw[<-hm]at hmc;have m9:(m:Int)<=9223372036854775807:=by omega
 have HRC:=zh (bv lp);rw[hT1.pv,HP1.out,<-hm]at HRC;clear hT1 hm;have HF0:Hid (ap (cr lp) 0 m = -1):=by
  rcases HRC.out with ⟨i',e',h1,h2,h3⟩ | ⟨h2,_⟩
  ·rw[HRP.out]at h3
   cases h3
  ·exact zh h2
 rw[HF0.out]at HRI;clear hrep HF0 HRC;obtain⟨lqn,hnq⟩:=af lq.length
 have HNQ:=zh hnq;clear hnq;go_upto_region 12 with (go_at_call 44;refine(HRI.out).mono ?_;rintro e w2 ⟨rfl,hB⟩;have E2:=zh hB;clear hB)
 have T2:=zh (T1.out.below E2.out);have cq:=T2.out.cq;rw[<-HNQ.out]at cq;have hO2:=zh (show cV W R w w2 g s1 from cV.comp HW1.out HR1.out HK1.out ⟨W1,R1,⟨_,_,_,_,_,_,_,_,T2.out⟩,fun _ h=>.inl h,fun _ h=>.inl h,aa.of_below E2.out⟩);clear cp;have hnq1:1<=lqn:=by
  rw[HNQ.out];have:=congrArg List.length T2.out.qv;rw[HS1.out,HQ0.out,List.length_map,List.length_cons]at this;omega
 have q1:¬((lqn:Int)=0):=by omega
 have cn:=T2.out.cnext;have hn0:=T2.out.next0;obtain⟨nx,hnx⟩:=af s1.next
 have HX:=zh hnx;rw[<-hnx]at cn hn0;have x0:¬nx=4294967296:=by rw[hnx,HN1.out];exact HNX.out
 have cp:=T2.out.cp;rw[<-HM.out]at cp;have HPV:=zh T2.out.pv;have hm1:0 < m:=by
  rw[HM.out];have hfu:=HFU.out;unfold TS.full at hfu;rw[<-HP1.out,<-HPV.out]at hfu
  cases lp with
  | nil=>cases hfu
  | cons x l=>simp
 obtain⟨p0,hp0⟩:∃p0,lp[0]? = some p0:=⟨lp[0]'(by rw[<-HM.out];exact hm1),List.getElem?_eq_getElem _⟩
 have HFL:=zh (show decide (2048<=IntKind.u64.wrap (nx-p0.v.ct))=true from by
  refine decide_eq_true ?_;rw[show IntKind.u64.wrap (nx-p0.v.ct)=(nx-p0.v.ct) % 18446744073709551616 from rfl];have hfu:=HFU.out;unfold TS.full at hfu;rw[<-HP1.out,<-HPV.out,<-HN1.out,<-HX.out]at hfu
  cases lp with
  | nil=>cases hfu
  | cons x l=>
   have:x=p0:=by simpa using hp0
   subst this;simpa using hfu)
 obtain⟨b,o,hpA,hbl,d0,d1,d2⟩:=T2.out.pcell hp0;subst hpA;rw[Nat.zero_mul,Nat.add_zero]at d0;obtain⟨y,hy⟩:=af p0.v.ct
 have hyr:=T2.out.pr p0.v (by rw[<-T2.out.pv];exact List.mem_map_of_mem (List.mem_of_getElem? hp0));rw[<-hy]at d0 hyr HFL;have hfl:=HFL.out;have m0:(0:Int) < (m:Int):=by omega
 have dm:decide ((0:Int) < (m:Int))=true:=decide_eq_true m0;clear hnx hy hp0 d1 d2;go_upto_region 16 with (fail)
 go_quiet (fail);go_wp2;go_ret3;rw[<-HS1.out]
 exact cT (hO2.out.next (an (Below.refl _ _) _)) 7
theorem ol (g:Nat) (s:TS) (W R:Nat->Prop) (w:World) (h:bC w g s W R) (hf:s.Fine) (t:Int) (ht1:-9223372036854775808<=t) (ht2:t<=9223372036854775807) (ct:¬1073741824<=t) (hb:j4 g s.C) (hpl:s.P.length<=1000000) (hrep:az s.P=none) (q:QV) (r:List QV) (hq:(s.tick t).Q=q :: r) (hnx:s.next ≠ 4294967296) (hfu:¬s.full=true) :
  Calls Tryz.prog 13 #[.pointer (some ⟨g,0,none⟩),.int .i64 t] w (iD W R w g (s.send t)):=by
 have HRP:=zh hrep;unfold TS.send;rw[if_neg ct,hrep];dsimp only;rw[hq];dsimp only;rw[if_neg hnx,if_neg hfu];have HQ0:=zh hq;have HNX:=zh hnx;have HFU:=zh hfu;have HBD:=zh hb;have HPL:=zh hpl;clear hq hnx hfu hpl;have HTK:=zh (aG g s W R w h hf t ht1 ht2);rw[if_neg ct,if_neg ct]at HTK;have HF1:=zh (hf.tick t);clear h hf;obtain⟨s1,hs1⟩:=af (s.tick t)
 have HS1:=zh hs1;have HC1:Hid (s1.C=s.C):=zh (by rw[hs1];rfl);have HP1:Hid (s1.P=s.P):=zh (by rw[hs1];rfl);have HN1:Hid (s1.next=s.next):=zh (by rw[hs1];rfl);rw[<-hs1]at HTK HF1;clear hs1;go_enter Tryz.func13,Tryz.ntmps13;go_upto_region 4 with (go_at_call 42;refine(HTK.out).mono ?_;rintro e w1 ⟨rfl,hO⟩;have HO:=zh hO;clear hO)
 obtain⟨W1,R1,hI1,hW1,hR1,hK1⟩:=HO.out;obtain⟨qA,qc,lq,pA,pc,lp,ub,cb,hT1⟩:=hI1;have T1:=zh hT1;have HW1:=zh hW1;have HR1:=zh hR1;have HK1:=zh hK1;clear hW1 hR1 hK1;obtain⟨m,hm⟩:=af lp.length
 have HM:=zh hm;have HRI:=zh (bz pA m pc lp hm w1 (by rw[hm];exact hT1.p));have cp:=hT1.cp;rw[<-hm]at cp;have hgl:=hT1.blk.lt;have hmc:=hT1.p.le;have hcm:=hT1.p.cmax;unfold maxLen at hcm;rw[<-hm]at hmc;have m9:(m:Int)<=9223372036854775807:=by omega
 have HRC:=zh (bv lp);rw[hT1.pv,HP1.out,<-hm]at HRC;clear hT1 hm;have HF0:Hid (ap (cr lp) 0 m = -1):=by
  rcases HRC.out with ⟨i',e',h1,h2,h3⟩ | ⟨h2,_⟩
  ·rw[HRP.out]at h3
   cases h3
  ·exact zh h2
 rw[HF0.out]at HRI;clear hrep HF0 HRC;obtain⟨lqn,hnq⟩:=af lq.length
 have HNQ:=zh hnq;clear hnq;go_upto_region 12 with (go_at_call 44;refine(HRI.out).mono ?_;rintro e w2 ⟨rfl,hB⟩;have E2:=zh hB;clear hB)
 have T2:=zh (T1.out.below E2.out);have cq:=T2.out.cq;rw[<-HNQ.out]at cq;have hO2:=zh (show cV W R w w2 g s1 from cV.comp HW1.out HR1.out HK1.out ⟨W1,R1,⟨_,_,_,_,_,_,_,_,T2.out⟩,fun _ h=>.inl h,fun _ h=>.inl h,aa.of_below E2.out⟩);clear cp;have hnq1:1<=lqn:=by
  rw[HNQ.out];have:=congrArg List.length T2.out.qv;rw[HS1.out,HQ0.out,List.length_map,List.length_cons]at this;omega
 have q1:¬((lqn:Int)=0):=by omega
 have cn:=T2.out.cnext;have hn0:=T2.out.next0;obtain⟨nx,hnx⟩:=af s1.next
 have HX:=zh hnx;rw[<-hnx]at cn hn0;have x0:¬nx=4294967296:=by rw[hnx,HN1.out];exact HNX.out
 have cp:=T2.out.cp;rw[<-HM.out]at cp;have HPV:=zh T2.out.pv;clear hnx;by_cases hm1:m=0
 focus
  have dm:decide ((0:Int) < (m:Int))=false:=decide_eq_false (by omega);have dm2:decide (0 < m)=false:=decide_eq_false (by omega);clear hm1;go_upto_region 16 with (fail)
  go_quiet (fail);go_upto_region 18 with (fail)
 rotate_left
 focus
  have hm1:0 < m:=by omega
  obtain⟨p0,hp0⟩:∃p0,lp[0]? = some p0:=⟨lp[0]'(by rw[<-HM.out];exact hm1),List.getElem?_eq_getElem _⟩
  have hfl0:¬2048<=(nx-p0.v.ct) % 18446744073709551616:=fun hc=>by
   have hfu:=HFU.out;unfold TS.full at hfu;rw[<-HP1.out,<-HPV.out,<-HN1.out,<-HX.out]at hfu
   cases lp with
   | nil=>cases hp0
   | cons x l=>
    have:x=p0:=by simpa using hp0
    subst this
    exact hfu (by simpa using hc)
  have hfl:decide (2048<=IntKind.u64.wrap (nx-p0.v.ct))=false:=decide_eq_false (by
   rw[show IntKind.u64.wrap (nx-p0.v.ct)=(nx-p0.v.ct) % 18446744073709551616 from rfl]
   exact hfl0)
  obtain⟨b,o,hpA,hbl,d0,d1,d2⟩:=T2.out.pcell hp0;subst hpA;rw[Nat.zero_mul,Nat.add_zero]at d0;obtain⟨y,hy⟩:=af p0.v.ct
  have hyr:=T2.out.pr p0.v (by rw[<-T2.out.pv];exact List.mem_map_of_mem (List.mem_of_getElem? hp0));rw[<-hy]at d0 hyr hfl;have m0:(0:Int) < (m:Int):=by omega
  have dm:decide ((0:Int) < (m:Int))=true:=decide_eq_true m0;clear hy hp0 d1 d2 hfl0;go_upto_region 16 with (fail)
  go_quiet (fail);go_upto_region 18 with (fail)
  clear d0;obtain⟨pA,hpA⟩:∃q:Option Addr,q=some ⟨b,o,none⟩:=⟨_,rfl⟩
  rw[<-hpA]at T2 ⊢;clear hpA
 all_goals
  refine ah (fun V=>ba V g s1 W1 R1 qA qc lq pA pc lp ub cb/\Below w2.heap.size w2 V) ⟨T2.out.below (an (Below.refl _ _) _),an (Below.refl _ _) _⟩ ?_;rintro V ⟨v1,v2⟩;have TV:=zh v1;have BV:=zh v2;clear v1 v2 cn cq cp;have cn:=TV.out.cnext;have cq:=TV.out.cq;rw[<-HNQ.out]at cq;rw[<-HX.out]at cn;obtain⟨e0,he0⟩:∃e0,lq[0]? = some e0:=⟨lq[0]'(by rw[<-HNQ.out];exact hnq1),List.getElem?_eq_getElem _⟩
  obtain⟨b2,o2,hqA,hb2,k0,k1⟩:=TV.out.qcell he0;subst hqA;rw[Nat.zero_mul,Nat.add_zero]at k0;have HE0:=zh he0;have PK:=zh (TV.out.qe e0 (List.mem_of_getElem? he0));obtain⟨PA,hPA⟩:=af e0.A
  obtain⟨pn,hpn⟩:=af e0.v.n
  obtain⟨pz,hpz⟩:=af e0.v.z
  obtain⟨pcc,hpcc⟩:=af e0.c
  have HPA:=zh hPA;have HPN:=zh hpn;have HPZ:=zh hpz;have HPC:=zh hpcc;rw[<-hPA,<-hpn,<-hpz,<-hpcc]at PK;rw[<-hPA,<-hpn,<-hpcc]at k0;have HEQ:Hid (e0.v=q/\(lq.drop 1).map (·.v)=r):=zh (by
   have hh:=T2.out.qv;rw[HS1.out,HQ0.out]at hh
   cases lq with
   | nil=>cases hh
   | cons x l=>
    have:x=e0:=by simpa using HE0.out
    subst this;injection hh with h1 h2
    exact⟨h1,h2⟩)
  obtain⟨N,hN⟩:∃N:Nat,N=nx.toNat:=⟨_,rfl⟩
  have HNN:Hid (nx=(N:Int)):=zh (by rw[hN];omega);have HNL:Hid (N < 4294967296):=zh (by rw[hN];omega);have HNT:=zh hN;have hnn:=HNN.out;have hnl:=HNL.out;subst hnn;have n32:(N:Int) % 4294967296=(N:Int):=by omega
  clear he0 hPA hpn hpz hpcc k1 hN;go_quiet (fail);go_upto_region 19 with (fail)
  refine ah (fun V2=>ba V2 g s1 W1 R1 (some ⟨b2,o2,none⟩) qc lq pA pc lp ub cb/\Below w2.heap.size w2 V2) ⟨TV.out.below (an (Below.refl _ _) _),BV.out.trans (an (Below.refl _ _) _)⟩ ?_;rintro V2 ⟨v1,v2⟩;have TU:=zh v1;have BU:=zh v2;clear v1 v2 cn cq k0;have hUs:V.heap.size<=V2.heap.size\/True:=.inr trivial;have PU:=zh (TU.out.qe e0 (List.mem_of_getElem? HE0.out));rw[<-HPA.out,<-HPN.out,<-HPZ.out,<-HPC.out]at PU;have HBU:=zh (HBD.out s1 W1 R1 V2 HC1.out ⟨_,_,_,_,_,_,_,_,TU.out⟩ N HNL.out PA pn pcc pz PU.out.pos PU.out.max PU.out.row PU.out.byte);clear hUs;go_upto_region 20 with (go_at_call 46;refine(HBU.out).mono ?_;rintro e w3 ⟨A3,c3,rfl,hc3,hF3,hR3,hB3⟩;have HC3:=zh hc3;have HF3:=zh hF3;have HR3:=zh hR3;have HB3:=zh hB3;clear hc3 hF3 hR3 hB3)
  have T3:=zh (TU.out.below HB3.out);have cq:=T3.out.cq;rw[<-HNQ.out]at cq;have f42:=T3.out.blk.frozen 42;have hqm:=T3.out.q.cmax;have hqle:=T3.out.q.le;rw[<-HNQ.out]at hqle;unfold maxLen at hqm;have q2:(1:Int)<=(lqn:Int):=by omega
  have q3:(lqn:Int)<=(qc:Int):=by omega
  have q4:(qc:Int)<=9223372036854775807:=by omega
  obtain⟨QA,hQA⟩:∃QA:Option Addr,QA=if qc=1 then some ⟨b2,o2,none⟩ else some ⟨b2,o2+2,none⟩:=⟨_,rfl⟩
  have HQAB:=zh (show ∀a,QA=some a->a.block=b2 from fun a ha=>by rw[hQA]at ha;split at ha<;>(cases ha;rfl));have hdl:(lq.drop 1).length=lqn-1:=by rw[List.length_drop,<-HNQ.out]
  have S4:SL w3 96 2 QA (lq.drop 1).length (qc-1) ((lq.drop 1).flatMap WE.cells):=by
   have hh:=T3.out.q.drop 1 (by rw[<-HNQ.out];exact hnq1);rw[iV,Nat.one_mul,<-hQA,<-HNQ.out,<-hdl]at hh
   exact hh
  obtain⟨W4,hW4⟩:∃W4:Nat->Prop,W4=fun k=>W1 k\/∃a,QA=some a/\k=a.block:=⟨_,rfl⟩
  have HW4:=zh (show ∀k,W4 k->W1 k from fun k hk=>by
   rw[hW4]at hk;rcases hk with hk | ⟨a,ha,e⟩
   ·exact hk
   ·rw[e,HQAB.out a ha];exact T3.out.wq _ rfl)
  have T4:=T3.out.setQ (lq':=lq.drop 1) (qA':=QA) (qc':=qc-1) (w1:=w3) aa.refl (fun a ha=>.inl ⟨_,rfl,HQAB.out a ha⟩) S4 (fun e he=>T3.out.qe e (List.mem_of_mem_drop he));rw[hdl,HEQ.out.2,<-hW4]at T4;have kg:aa W1 w3 (w3.setCell ⟨g,42,none⟩ (.slice QA (lqn-1) (qc-1))):=aa.refl.setCell (p:=⟨g,42,none⟩) T3.out.wg _;have PK3:=zh (T3.out.qe e0 (List.mem_of_getElem? HE0.out));rw[<-HPA.out,<-HPN.out,<-HPZ.out,<-HPC.out]at PK3;go_upto_region 23 with (fail)
  rw[<-hQA];refine ah (fun X=>ba X g { s1 with Q:=r } W4 R1 QA (qc-1) (lq.drop 1) pA pc lp ub cb/\aa W1 w3 X) ⟨T4,kg⟩ ?_;rintro X4 ⟨x1,x2⟩;have TX4:=zh x1;have KX4:=zh x2;clear x1 x2 T4 kg S4 hQA hW4 hdl cq f42 hqm q3 q4;have c41:=TX4.out.cnext;rw[show({ s1 with Q:=r }:TS).next=s1.next from rfl,<-HX.out]at c41;have f41:=TX4.out.blk.frozen 41;have T5:=TX4.out.setNext ((N:Int)+1) (by omega);have kg:aa W1 w3 (X4.setCell ⟨g,41,none⟩ (.int .u64 ((N:Int)+1))):=KX4.out.setCell (p:=⟨g,41,none⟩) T3.out.wg _;go_upto_region 24 with (fail)
  refine ah (fun X=>ba X g { s1 with Q:=r,next:=(N:Int)+1 } W4 R1 QA (qc-1) (lq.drop 1) pA pc lp ub cb/\aa W1 w3 X) ⟨T5,kg⟩ ?_;rintro X5 ⟨x1,x2⟩;have TX5:=zh x1;have KX5:=zh x2;clear x1 x2 T5 kg c41 f41;have hs0:w.heap.size<=w1.heap.size:=HK1.out.size;have hs1:w1.heap.size<=w2.heap.size:=E2.out.size;have hs2:w2.heap.size<=V2.heap.size:=BU.out.size;have hs3:V2.heap.size<=w3.heap.size:=HB3.out.size;have HFA:=zh (show ∀a,A3=some a->V2.heap.size<=a.block/\a.block < w3.heap.size/\∃cur t,w3.heap[a.block]? = some (.cells cur t (0,0))from fun a e=>⟨(HF3.out a e).1,bT HR3.out (by unfold aZ;omega) e,(HF3.out a e).2⟩);have HKB:=zh (show aa W w w3 from (HK1.out.trans (aa.of_below (F:=W1) (E2.out.trans ((BU.out.trans (HB3.out.mono hs2)).mono hs1))) (fun k hk h=>by
    rcases HW1.out k h with h | h
    ·exact h
    ·omega)))
  have HWW:=zh (show ∀k,k < w.heap.size->W1 k->W k from fun k hk h=>by
   rcases HW1.out k h with h | h
   ·exact h
   ·omega)
  have hN:aZ s.C q.n=aZ s.C pn:=by rw[HPN.out,HEQ.out.1]
  have hZ:cA s.C s.next.toNat q.n (nf q.z)=cA s.C N pn (nf pz):=by rw[HPN.out,HPZ.out,HEQ.out.1,<-HN1.out,<-HX.out,Int.toNat_natCast]
  have hNX:s.next=(N:Int):=by rw[<-HN1.out,HX.out]
  have HNN2:=zh hN;have HZZ:=zh hZ;have HNXX:=zh hNX;clear hN hZ hNX;have c36:X5.cell? ⟨g,36,none⟩=some (.bool s.C.ac):=(TX5.out.cC (j:=36) (by decide)).trans (by rw[show({ s1 with Q:=r,next:=(N:Int)+1 }:TS).C=s1.C from rfl,HC1.out];rfl);by_cases hac:s.C.ac=true
  ·rw[hac]at c36;have HAC:=zh hac;clear hac;have cp5:=TX5.out.cp;rw[<-HM.out]at cp5;obtain⟨ip,hip,hipz,hips,hipb⟩:=ew;obtain⟨X6,hX6⟩:=af (X5.alloc (.cells #[.int .u32 (N:Int),.slice PA pn pcc,.bool false] 94))
   have hb6:Below X5.heap.size X5 X6:=by rw[hX6];exact bR _
   have HX6:=zh hX6;have TX6:=zh (TX5.out.below hb6);have hNB:ae X6 X5.heap.size 94 #[.int .u32 (N:Int),.slice PA pn pcc,.bool false]:=by rw[hX6];exact ae.new _ _ _
   have HSRC:Hid (Src Tryz.prog 3 89 (.slice (some ⟨X5.heap.size,0,none⟩) 1 1) 1 [.int .u32 (N:Int),.slice PA pn pcc,.bool false] X6):=zh (Src.ofSlice _ Tryz.underlying89 ⟨X5.heap.size,0,none⟩ 1 1 _ rfl (fun j u hu=>by
    have hj:j < 3:=(List.getElem?_eq_some_iff.1 hu).1;rw[Addr.add_lit,Nat.zero_add,hNB.cell j];simpa using hu) (by simp[Value.oneCell']))
   have HSL6:Hid (SL X6 94 3 pA m pc (lp.flatMap PE.cells)):=zh (by rw[HM.out];exact TX6.out.p);have HM6:Hid (m<=1000000):=zh (by rw[HM.out];have hh:=congrArg List.length T1.out.pv;rw[List.length_map,HP1.out]at hh;rw[hh];exact HPL.out);clear hNB hX6;go_wp2_with (rw[<-HX6.out];refine aD rfl _ _ _ _ rfl X6 94 ip (.agg #[.int .u32 0,.slice none 0 0,.bool false]) 3 40 Tryz.underlying89 hip hipz hips hipb rfl pA m pc (lp.flatMap PE.cells) rfl HSL6.out _ rfl 1 [.int .u32 (N:Int),.slice PA pn pcc,.bool false] HSRC.out (by decide) (by have:=HM6.out;unfold maxLen;omega) (by have:=HM6.out;omega) ?_;intro A9 c9 wA hSL9 hK9 hA9;have HSL9:=zh hSL9;have HK9:=zh hK9;have HA9:=zh hA9;have hg9:=(hK9.blk TX6.out.blk (fun⟨a,ha,e⟩=>TX6.out.gp a ha e)).cell 43;have hf9:=(hK9.blk TX6.out.blk (fun⟨a,ha,e⟩=>TX6.out.gp a ha e)).frozen 43;rw[aE s1.C.arr_size 4]at hg9;simp at hg9;clear hSL9 hK9 hA9);go_ret3;obtain⟨pe,hpe⟩:∃pe:PE,pe=⟨⟨(N:Int),pn,pz,false⟩,PA,pcc⟩:=⟨_,rfl⟩
   have hlen9:(lp++[pe]).length=m+1:=by rw[List.length_append,<-HM.out];rfl
   have hW1X:∀k,W1 k->k < w3.heap.size:=T3.out.win;have hX5:w3.heap.size<=X5.heap.size:=KX5.out.size;have hX6s:X5.heap.size<=X6.heap.size:=hb6.size;have hS9:SL wA 94 3 A9 (lp++[pe]).length c9 ((lp++[pe]).flatMap PE.cells):=by
    rw[hlen9,List.flatMap_append,hpe]
    exact HSL9.out
   have hpk:∀e,e∈lp++[pe]->bE wA R1 e.A e.v.n e.c e.v.z:=fun e he=>by
    have hx:bE X6 R1 e.A e.v.n e.c e.v.z:=by
     rcases List.mem_append.1 he with he | he
     ·exact TX6.out.pe e he
     ·have:e=pe:=by simpa using he
      rw[this,hpe]
      exact(PK3.out.keep KX5.out (fun k hw hr=>T3.out.dis k hw hr)).keep (aa.of_below (F:=fun _=>False) hb6) (fun k hf=>hf.elim)
    exact hx.keep HK9.out (fun j ⟨a,ha,e2⟩ hr=>TX6.out.dis j (by rw[e2];exact TX6.out.wp a ha) hr)
   have TF:=TX6.out.setP (lp':=lp++[pe]) HK9.out HA9.out hS9 hpk (fun e he=>by
    rcases List.mem_append.1 he with he | he
    ·exact TX6.out.pr e.v (by rw[<-TX6.out.pv];exact List.mem_map_of_mem he)
    ·have:e=pe:=by simpa using he
     rw[this,hpe]
     exact⟨Int.natCast_nonneg _,by show(N:Int) < 4294967296;omega⟩)
   rw[hlen9]at TF;have hK:aa W1 w3 (wA.setCell ⟨g,43,none⟩ (.slice A9 (m+1) c9)):=((KX5.out.more hb6).trans (HK9.out.mono (G:=fun k=>W1 k\/X6.heap.size<=k) (fun k ⟨a,ha,e⟩=>.inl (by rw[e];exact T3.out.wp a ha))) (fun k hk h=>by
    rcases h with h | h
    ·exact h
    ·omega)).setCell (p:=⟨g,43,none⟩) T3.out.wg _
   have hW9:∀k,(W4 k\/∃a,A9=some a/\k=a.block)->W1 k\/X6.heap.size<=k:=fun k hk=>by
    rcases hk with hk | ⟨a,ha,e⟩
    ·exact .inl (HW4.out k hk)
    ·rcases HA9.out a ha with ⟨a',ha',e'⟩ | hge
     ·exact .inl (by rw[e,e'];exact T3.out.wp a' ha')
     ·exact .inr (by omega)
   refine⟨A3,c3,(fun k=>W4 k\/∃a,A9=some a/\k=a.block),R1,?_,?_,?_,?_,fun k hk=>?_,HR1.out,?_,?_⟩
   ·show _=Ending.returned (.tuple #[.slice A3 (aZ s.C q.n) c3,.int .u32 s.next,.int .i64 0]);rw[HNN2.out,HNXX.out]
    rfl
   ·show aZ s.C q.n<=c3;rw[HNN2.out]
    exact HC3.out
   ·show av _ _ A3 (aZ s.C q.n) (fun j=>.int .u8 ((cA s.C s.next.toNat q.n (nf q.z) j:Nat):Int));rw[HNN2.out,HZZ.out]
    exact(hK.row HR3.out aB (fun a e _ h=>by have:=(HFA.out a e).1;have:=TU.out.win _ h;omega)).more hK.size
   ·first
     | (show bC _ g ({ s.tick t with Q:=r,next:=s.next+1,P:=if s.C.ac=true then s.P++[⟨s.next,q.n,q.z,false⟩] else s.P }:TS) _ R1;rw[if_pos HAC.out])
     | show bC _ g ({ s.tick t with Q:=r,next:=s.next+1,P:=s.P++[⟨s.next,q.n,q.z,false⟩] }:TS) _ R1
    rw[<-HS1.out,HNXX.out,<-HP1.out,show(⟨(N:Int),q.n,q.z,false⟩:PV)=pe.v from by rw[hpe,HPN.out,HPZ.out,HEQ.out.1],<-T1.out.pv];rw[List.map_append]at TF
    exact⟨_,_,_,_,_,_,_,_,TF⟩
   ·rcases hW9 k hk with h | h
    ·exact HW1.out k h
    ·exact .inr (by omega)
   ·exact HKB.out.trans hK HWW.out
   ·intro a e;have h1:=(HFA.out a e).1;have h2:=(HFA.out a e).2.1;obtain⟨cur,ty,hu⟩:=(HFA.out a e).2.2;refine⟨by omega,fun h=>?_,fun h=>by have:=TU.out.rin _ h;omega,cur,ty,(hK.block _ h2 (fun h=>by have:=TU.out.win _ h;omega)).trans hu⟩;rcases hW9 _ h with h | h
    ·have:=TU.out.win _ h;omega
    ·omega
  ·have hac2:s.C.ac=false:=by simpa using hac
   rw[hac2]at c36;have HAC:=zh hac;clear hac hac2;go_wp2;go_ret3;refine⟨A3,c3,W4,R1,?_,?_,?_,?_,fun k hk=>HW1.out k (HW4.out k hk),HR1.out,?_,?_⟩
   ·show _=Ending.returned (.tuple #[.slice A3 (aZ s.C q.n) c3,.int .u32 s.next,.int .i64 0]);rw[HNN2.out,HNXX.out]
    rfl
   ·show aZ s.C q.n<=c3;rw[HNN2.out]
    exact HC3.out
   ·show av _ _ A3 (aZ s.C q.n) (fun j=>.int .u8 ((cA s.C s.next.toNat q.n (nf q.z) j:Nat):Int));rw[HNN2.out,HZZ.out]
    exact(KX5.out.row HR3.out aB (fun a e _ h=>by have:=(HFA.out a e).1;have:=TU.out.win _ h;omega)).more KX5.out.size
   ·first
     | (show bC _ g ({ s.tick t with Q:=r,next:=s.next+1,P:=if s.C.ac=true then s.P++[⟨s.next,q.n,q.z,false⟩] else s.P }:TS) W4 R1;rw[if_neg HAC.out])
     | show bC _ g ({ s.tick t with Q:=r,next:=s.next+1,P:=s.P }:TS) W4 R1
    rw[<-HS1.out,HNXX.out,<-HP1.out]
    exact⟨_,_,_,_,_,_,_,_,TX5.out⟩
   ·exact HKB.out.trans KX5.out HWW.out
   ·intro a e;have:=(HFA.out a e).1;obtain⟨cur,ty,hu⟩:=(HFA.out a e).2.2
    exact⟨by omega,fun h=>by have:=TU.out.win _ (HW4.out _ h);omega,fun h=>by have:=TU.out.rin _ h;omega,cur,ty,(KX5.out.block _ (HFA.out a e).2.1 (fun h=>by have:=TU.out.win _ h;omega)).trans hu⟩
theorem fK (g:Nat) (s:TS) (W R:Nat->Prop) (w:World) (h:bC w g s W R) (hf:s.Fine) (t:Int) (ht1:-9223372036854775808<=t) (ht2:t<=9223372036854775807) (hb:j4 g s.C) (hpl:s.P.length<=1000000) :
  Calls Tryz.prog 13 #[.pointer (some ⟨g,0,none⟩),.int .i64 t] w (iD W R w g (s.send t)):=by
 by_cases ct:1073741824<=t
 ·exact mF g s W R w h hf t ht1 ht2 ct
 cases hrep:az s.P with
 | some x=>exact n7 g s W R w h hf t ht1 ht2 ct hb x.1 x.2 hrep
 | none=>
  cases hq:(s.tick t).Q with
  | nil=>exact mn g s W R w h hf t ht1 ht2 ct hrep hq
  | cons q r=>
   by_cases hnx:s.next=4294967296
   ·exact mP g s W R w h hf t ht1 ht2 ct hrep q r hq hnx
   ·by_cases hfu:s.full=true
    ·exact mT g s W R w h hf t ht1 ht2 ct hrep q r hq hnx hfu
    ·exact ol g s W R w h hf t ht1 ht2 ct hb hpl hrep q r hq hnx hfu
theorem jr.empty (w:World):jr w none 0 (fun _=>0) (fun _=>none) (fun _=>0) (fun _=>0) (fun _ _=>0):=
 ⟨fun h=>absurd rfl h,fun k hk=>absurd hk (by omega),fun k hk=>absurd hk (by omega),fun k hk=>absurd hk (by omega),fun k hk=>absurd hk (by omega),fun k hk=>absurd hk (by omega)⟩
theorem et.empty (w:World):et w none 0 (fun _=>none) (fun _=>0) (fun _=>0) (fun _ _=>0):=
 ⟨fun h=>absurd rfl h,fun k hk=>absurd hk (by omega),fun k hk=>absurd hk (by omega),fun k hk=>absurd hk (by omega),fun k hk=>absurd hk (by omega)⟩
theorem sC.empty (ac:Bool):sC ac 0 false 0 (fun _=>0) (fun _=>0) 0 (fun _=>0):=
 ⟨fun h=>absurd h (by decide),fun h=>absurd h (by omega),fun k hk=>absurd hk (by omega),fun h=>absurd h (by omega),fun k hk=>absurd hk (by omega)⟩
def gT (cf:aP):TS:=⟨cf,0,0,[],[],[aq cf.key],eF⟩
theorem jE {cf:aP} (hok:cf.Ok) (hv:cf.Valid):(gT cf).Fine:=⟨hok,hv,fun q hq=>by cases hq⟩
def kH (w w':World) (g:Nat) (s:TS):Prop:=∃W R,bC w' g s W R/\(∀k,W k->w.heap.size<=k)/\(∀k,R k->w.heap.size<=k)/\Below w.heap.size w w'
theorem j5 (cf:aP) (hv:cf.Valid) (w:World) :
  Calls Tryz.prog 19 #[.agg cf.arr] w fun e w'=>∃g,e=.returned (.tuple #[.pointer (some ⟨g,0,none⟩),.int .i64 0])/\kH w w' g (gT cf):=by
 have HR:=zh (fun V:World=>m8 cf none none 0 0 0 0 0 false (fun _=>0) (fun _=>none) (fun _=>0) (fun _=>0) (fun _ _=>0) (fun _=>none) (fun _=>0) (fun _=>0) (fun _ _=>0) V (by decide) (by omega) (by omega) (jr.empty V) (et.empty V) hv (sC.empty cf.ac));have HS:Hid ((Tryz.prog.info? 25).map (·.size)=some cf.arr.size):=zh (by rw[cf.arr_size];exact gA);obtain⟨Z,hZ⟩:=af cf.arr
 rw[<-hZ]at HS HR ⊢;have HU:=zh Tryz.underlying25;clear hZ;go_enter Tryz.func19,Tryz.ntmps19;go_upto_region 1 with (fail)
 refine ah (fun W=>ae W w.heap.size 25 Z/\Below w.heap.size w W) ⟨ae.new _ _ _,(Below.refl _ w).alloc aB _⟩ ?_;rintro W1 ⟨b1,b2⟩;have B1:=zh b1;have B2:=zh b2;clear b1 b2;go_wp2_with (first
  | (refine wpList_load_row rfl _ _ rfl w.heap.size rfl 25 Z (0,0) _ B1.out HU.out rfl HS.out ?_)
  | (go_at_call 10;refine(HR.out _).mono ?_;rintro e w2 ⟨g,W,R,rfl,hI,hW,hR,hB⟩;have HI:=zh hI;have HW:=zh hW;have HRR:=zh hR;have HB:=zh hB;clear hI hW hR hB))
 go_ret2;have hs:=B2.out.size
 exact⟨g,rfl,W,R,HI.out,fun k hk=>bj hs (HW.out k hk),fun k hk=>bj hs (HRR.out k hk),B2.out.trans (HB.out.mono hs)⟩
theorem rf (cf:aP) (hv:¬cf.Valid) (w:World) :
  Calls Tryz.prog 19 #[.agg cf.arr] w fun e w'=>e=.returned (.tuple #[.pointer none,.int .i64 2])/\Below w.heap.size w w':=by
 have HR:=zh (fun V:World=>mc cf none none 0 0 0 0 0 false (fun _=>0) (fun _=>none) (fun _=>0) (fun _=>0) (fun _ _=>0) (fun _=>none) (fun _=>0) (fun _=>0) (fun _ _=>0) V (by decide) (Nat.zero_le _) (Nat.zero_le _) (jr.empty V) (et.empty V) (fun h=>hv h.1));have HS:Hid ((Tryz.prog.info? 25).map (·.size)=some cf.arr.size):=zh (by rw[cf.arr_size];exact gA);obtain⟨Z,hZ⟩:=af cf.arr
 rw[<-hZ]at HS HR ⊢;have HU:=zh Tryz.underlying25;clear hZ;go_enter Tryz.func19,Tryz.ntmps19;go_upto_region 1 with (fail)
 refine ah (fun W=>ae W w.heap.size 25 Z/\Below w.heap.size w W) ⟨ae.new _ _ _,(Below.refl _ w).alloc aB _⟩ ?_;rintro W1 ⟨b1,b2⟩;have B1:=zh b1;have B2:=zh b2;clear b1 b2;go_wp2_with (first
  | (refine wpList_load_row rfl _ _ rfl w.heap.size rfl 25 Z (0,0) _ B1.out HU.out rfl HS.out ?_)
  | (go_at_call 10;refine(HR.out _).mono ?_;rintro e w2 ⟨rfl,hB⟩;have HB:=zh hB;clear hB))
 go_ret2
 exact⟨rfl,B2.out.trans (HB.out.mono B2.out.size)⟩
theorem oO (p:Nat->Bool) (n:Nat) (hno:∀j,j < n->p j=false):ap p 0 n = -1:=by
 rcases eh p n with ⟨i,hi,_,hp,_⟩ | ⟨h,_⟩
 ·rw[hno i hi]at hp;cases hp
 ·exact h
theorem gJ (g:Nat) (s:TS) (W R:Nat->Prop) (w:World) (h:bC w g s W R) (x:Int) (hno:∀e,e∈s.P->e.ct ≠ x) :
  Calls Tryz.prog 24 #[.pointer (some ⟨g,0,none⟩),.int .u32 x] w fun e w'=>e=.returned (.int .i64 10)/\Below w.heap.size w w':=by
 have HM:=zh (fun(V:World) (hb:Below w.heap.size w V)=>di g s W R V (h.below hb));obtain⟨qA,qc,lq,pA,pc,lp,ub,cb,hT⟩:=h;have HT:=zh hT;have HF0:=zh (oO (ll lp x) lp.length (fun j hj=>by
  unfold ll;rw[List.getElem?_eq_getElem hj];have:=hno lp[j].v (by rw[<-hT.pv];exact List.mem_map_of_mem (List.getElem_mem hj));simpa using this))
 have hcm:=hT.p.cmax;unfold maxLen at hcm;have hle:=hT.p.le;obtain⟨n,hn⟩:=af lp.length
 have HN:=zh hn;have hgl:=hT.blk.lt;rw[<-hn]at hle HF0;clear hT hno hn;go_enter Tryz.func24,Tryz.ntmps24;go_upto_region 1 with (fail)
 refine ah (fun V=>V.cell? ⟨w.heap.size,0,none⟩=some (.int .u32 x)/\Below w.heap.size w V/\w.heap.size < V.heap.size) ⟨(ae.new _ _ _).cell 0,(Below.refl _ w).alloc aB _,by simp⟩ ?_;rintro W1 ⟨b1,b2,b3⟩;obtain⟨xb,hxb⟩:=af w.heap.size
 have B2:=zh b2;have T1:=zh (HT.out.below b2);have HI:=zh (jH pA lp.length pc lp rfl x xb W1 T1.out.p (by rw[hxb];exact b1) (by omega));rw[<-HN.out]at HI;have c1:=T1.out.cp;rw[<-HN.out]at c1;rw[<-hxb];rw[HF0.out]at HI;clear b1 b2 hxb;go_wp2_with (first
  | (go_at_call 49;refine(HM.out _ B2.out).mono ?_;rintro e w2 ⟨rfl,rfl⟩)
  | (go_at_call 44;refine(HI.out).mono ?_;rintro e w3 ⟨rfl,hB⟩;have E2:=zh hB;clear hB))
 go_ret
 exact⟨rfl,B2.out.trans (E2.out.mono B2.out.size)⟩
theorem ks {W R:Nat->Prop} {w w':World} {g:Nat} {r:NX} {e:Ending} (h:iD W R w g r e w'):∃A c,e=.returned (.tuple #[.slice A r.n c,.int .u32 r.ct,.int .i64 r.e])/\cV W R w w' g r.s:=by
 obtain⟨A,c,W',R',h1,h2,h3,h4,h5,h6,h7,h8⟩:=h
 exact⟨A,c,h1,W',R',h4,h5,h6,h7⟩
def sc (W R W2 R2:Nat->Prop):Prop:=(∀k,W k->¬W2 k/\¬R2 k)/\(∀k,W2 k->¬W k/\¬R k)
theorem sc.symm {W R W2 R2:Nat->Prop} (h:sc W R W2 R2):sc W2 R2 W R:=⟨h.2,h.1⟩
theorem sc.step {W R W' R' W2 R2:Nat->Prop} {n:Nat} (h:sc W R W2 R2) (hW:∀k,W' k->W k\/n<=k) (hR:∀k,R' k->R k\/n<=k) (h2:∀k,W2 k->k < n) (h3:∀k,R2 k->k < n):sc W' R' W2 R2:=by
 refine⟨fun k hk=>?_,fun k hk=>⟨fun hw=>?_,fun hr=>?_⟩⟩
 ·rcases hW k hk with hk | hk
  ·exact h.1 k hk
  ·exact⟨fun h=>by have:=h2 k h;omega,fun h=>by have:=h3 k h;omega⟩
 ·rcases hW k hw with hw | hw
  ·exact(h.2 k hk).1 hw
  ·have:=h2 k hk;omega
 ·rcases hR k hr with hr | hr
  ·exact(h.2 k hk).2 hr
  ·have:=h2 k hk;omega
theorem bC.win {w:World} {g:Nat} {s:TS} {W R:Nat->Prop} (h:bC w g s W R):∀k,W k->k < w.heap.size:=by
 obtain⟨qA,qc,lq,pA,pc,lp,ub,cb,h⟩:=h
 exact h.win
theorem bC.rin {w:World} {g:Nat} {s:TS} {W R:Nat->Prop} (h:bC w g s W R):∀k,R k->k < w.heap.size:=by
 obtain⟨qA,qc,lq,pA,pc,lp,ub,cb,h⟩:=h
 exact h.rin
def l5 (w0 w:World) (g1:Nat) (s1:TS) (g2:Nat) (s2:TS) (g3:Nat) (s3:TS) (N:Nat->Prop):Prop:=
 ∃W1 R1 W2 R2 W3 R3,bC w g1 s1 W1 R1/\bC w g2 s2 W2 R2/\bC w g3 s3 W3 R3/\sc W1 R1 W2 R2/\sc W1 R1 W3 R3/\sc W2 R2 W3 R3/\(∀k,N k->k < w.heap.size/\¬W1 k/\¬W2 k/\¬W3 k)/\(∀k,W1 k\/W2 k\/W3 k->w0.heap.size<=k)/\Below w0.heap.size w0 w
section
variable {w0 w w':World} {g1 g2 g3:Nat} {s1 s2 s3:TS} {N:Nat->Prop}
theorem l5.rot (h:l5 w0 w g1 s1 g2 s2 g3 s3 N):l5 w0 w g2 s2 g3 s3 g1 s1 N:=by
 obtain⟨W1,R1,W2,R2,W3,R3,h1,h2,h3,h12,h13,h23,hN,hB,hb⟩:=h;refine⟨W2,R2,W3,R3,W1,R1,h2,h3,h1,h23,h12.symm,h13.symm,fun k hk=>⟨(hN k hk).1,(hN k hk).2.2.1,(hN k hk).2.2.2,(hN k hk).2.1⟩,fun k hk=>hB k ?_,hb⟩;rcases hk with h | h | h
 ·exact .inr (.inl h)
 ·exact .inr (.inr h)
 ·exact .inl h
theorem l5.swap (h:l5 w0 w g1 s1 g2 s2 g3 s3 N):l5 w0 w g1 s1 g3 s3 g2 s2 N:=by
 obtain⟨W1,R1,W2,R2,W3,R3,h1,h2,h3,h12,h13,h23,hN,hB,hb⟩:=h;refine⟨W1,R1,W3,R3,W2,R2,h1,h3,h2,h13,h12,h23.symm,fun k hk=>⟨(hN k hk).1,(hN k hk).2.1,(hN k hk).2.2.2,(hN k hk).2.2.1⟩,fun k hk=>hB k ?_,hb⟩;rcases hk with h | h | h
 ·exact .inl h
 ·exact .inr (.inr h)
 ·exact .inr (.inl h)
theorem l5.low (h:l5 w0 w g1 s1 g2 s2 g3 s3 N):Below w0.heap.size w0 w:=by
 obtain⟨W1,R1,W2,R2,W3,R3,h1,h2,h3,h12,h13,h23,hN,hB,hb⟩:=h
 exact hb
theorem l5.below (h:l5 w0 w g1 s1 g2 s2 g3 s3 N) (hb:Below w.heap.size w w'):l5 w0 w' g1 s1 g2 s2 g3 s3 N:=by
 obtain⟨W1,R1,W2,R2,W3,R3,h1,h2,h3,h12,h13,h23,hN,hB,hb0⟩:=h
 exact⟨W1,R1,W2,R2,W3,R3,h1.below hb,h2.below hb,h3.below hb,h12,h13,h23,fun k hk=>⟨bg (hN k hk).1 hb.size,(hN k hk).2⟩,hB,hb0.trans (hb.mono hb0.size)⟩
theorem sq {w1 w2:World} (h1:kH w0 w1 g1 s1) (h2:kH w1 w2 g2 s2) (h3:kH w2 w g3 s3):l5 w0 w g1 s1 g2 s2 g3 s3 (fun _=>False):=by
 obtain⟨W1,R1,i1,a1,b1,c1⟩:=h1;obtain⟨W2,R2,i2,a2,b2,c2⟩:=h2;obtain⟨W3,R3,i3,a3,b3,c3⟩:=h3;have s1:=c1.size;have s2:=c2.size;have s3:=c3.size;have j1:=i1.win;have j1':=i1.rin;have j2:=i2.win;have j2':=i2.rin;refine⟨W1,R1,W2,R2,W3,R3,(i1.below c2).below c3,i2.below c3,i3,⟨fun k hk=>⟨fun h=>?_,fun h=>?_⟩,fun k hk=>⟨fun h=>?_,fun h=>?_⟩⟩,⟨fun k hk=>⟨fun h=>?_,fun h=>?_⟩,fun k hk=>⟨fun h=>?_,fun h=>?_⟩⟩,⟨fun k hk=>⟨fun h=>?_,fun h=>?_⟩,fun k hk=>⟨fun h=>?_,fun h=>?_⟩⟩,fun k hk=>hk.elim,fun k hk=>?_,c1.trans ((c2.trans (c3.mono s2)).mono s1)⟩
 ·have:=j1 k hk;have:=a2 k h;omega
 ·have:=j1 k hk;have:=b2 k h;omega
 ·have:=j1 k h;have:=a2 k hk;omega
 ·have:=j1' k h;have:=a2 k hk;omega
 ·have:=j1 k hk;have:=a3 k h;omega
 ·have:=j1 k hk;have:=b3 k h;omega
 ·have:=j1 k h;have:=a3 k hk;omega
 ·have:=j1' k h;have:=a3 k hk;omega
 ·have:=j2 k hk;have:=a3 k h;omega
 ·have:=j2 k hk;have:=b3 k h;omega
 ·have:=j2 k h;have:=a3 k hk;omega
 ·have:=j2' k h;have:=a3 k hk;omega
 ·rcases hk with h | h | h
  ·exact a1 k h
  ·have:=a2 k h;omega
  ·have:=a3 k h;omega
theorem l5.call (h:l5 w0 w g1 s1 g2 s2 g3 s3 N):∃W R,bC w g1 s1 W R/\(∀w' s,cV W R w w' g1 s->l5 w0 w' g1 s g2 s2 g3 s3 N/\∀k,N k->w'.heap[k]? = w.heap[k]?)/\
  (∀w' r e,iD W R w g1 r e w'->∃A c,e=.returned (.tuple #[.slice A r.n c,.int .u32 r.ct,.int .i64 r.e])/\r.n<=c/\av w' w'.heap.size A r.n (fun j=>.int .u8 ((r.z j:Nat):Int))/\l5 w0 w' g1 r.s g2 s2 g3 s3 (fun k=>r.n ≠ 0/\∃a,A=some a/\k=a.block)):=by
 obtain⟨W1,R1,W2,R2,W3,R3,h1,h2,h3,h12,h13,h23,hN,hB,hb⟩:=h;have hs:=hb.size;have low:∀{W':Nat->Prop},(∀k,W' k->W1 k\/w.heap.size<=k)->∀k,W' k\/W2 k\/W3 k->w0.heap.size<=k:=fun hW k hk=>by
  rcases hk with h | h | h
  ·rcases hW k h with h | h
   ·exact hB k (.inl h)
   ·omega
  ·exact hB k (.inr (.inl h))
  ·exact hB k (.inr (.inr h))
 refine⟨W1,R1,h1,fun w' s hO=>?_,fun w' r e hO=>?_⟩
 ·obtain⟨W',R',hI,hW,hR,hK⟩:=hO
  exact⟨⟨W',R',W2,R2,W3,R3,hI,h2.keepF hK h12.1,h3.keepF hK h13.1,h12.step hW hR h2.win h2.rin,h13.step hW hR h3.win h3.rin,h23,fun k hk=>⟨bg (hN k hk).1 hK.size,fun hw=>by
    rcases hW k hw with hw | hw
    ·exact(hN k hk).2.1 hw
    ·have:=(hN k hk).1;omega,(hN k hk).2.2⟩,low hW,aa.below hb hK (fun k hk=>hB k (.inl hk)) hs⟩,fun k hk=>hK.block k (hN k hk).1 (hN k hk).2.1⟩
 ·obtain⟨A,c,W',R',h1',h2',h3',hI,hW,hR,hK,hA⟩:=hO;refine⟨A,c,h1',h2',h3',W',R',W2,R2,W3,R3,hI,h2.keepF hK h12.1,h3.keepF hK h13.1,h12.step hW hR h2.win h2.rin,h13.step hW hR h3.win h3.rin,h23,fun k ⟨hn,a,ha,e⟩=>?_,low hW,aa.below hb hK (fun k hk=>hB k (.inl hk)) hs⟩;subst e;have:=hA a ha;refine⟨bT h3' (by omega) ha,this.2.1,fun hw=>?_,fun hw=>?_⟩
  ·have:=h2.win _ hw;omega
  ·have:=h3.win _ hw;omega
end
def rt:Nat->Int:=fun j=>if j=0 then 97 else 98
def qS (cf:aP):TS:={ gT cf with Q:=[⟨2,rt,0⟩] }
theorem j6 {cf:aP} (hok:cf.Ok) (hv:cf.Valid):(qS cf).Fine:=⟨hok,hv,fun q hq=>by
 have:q=⟨2,rt,0⟩:=by simpa[qS]using hq
 rw[this]
 exact⟨Int.le_refl _,Int.le_refl _⟩⟩
theorem sY (cf:aP):(gT cf).submit 0 2 rt=(0,qS cf):=by
 unfold TS.submit;rw[if_neg (by decide),if_neg (by decide),if_neg (by decide)]
 rfl
theorem pX (cf:aP) (hok:cf.Ok) (hv:cf.Valid) (hcm:cf.cm=false) (g:Nat) (W R:Nat->Prop) (V:World) (h:bC V g (gT cf) W R) (fr:Nat×Nat) :
  Calls Tryz.prog 12 #[.pointer (some ⟨g,0,none⟩),.int .i64 0,.slice (some ⟨V.heap.size,0,none⟩) 2 2] (V.alloc (.cells #[.int .u8 97,.int .u8 98] 5 fr)) fun e w'=>e=.returned (.int .i64 0)/\cV W R V w' g (qS cf):=by
 have hb:Below V.heap.size V (V.alloc (.cells #[.int .u8 97,.int .u8 98] 5 fr)):=bR _;refine(ii g (gT cf) W R _ (h.below hb) (jE hok hv) hcm (Nat.zero_le _) 0 (by decide) (by decide) (some ⟨V.heap.size,0,none⟩) 2 2 rt ⟨fun _=>⟨_,_,rfl,by simp,fun j hj=>?_⟩,fun j hj=>?_,fun a ha _ hw=>?_⟩ (by decide)).mono ?_
 ·rw[Nat.zero_add,World.cell?_alloc_mark];rcases (by omega:j=0\/j=1)with rfl | rfl<;>rfl
 ·unfold rt;split<;>decide
 ·cases ha
  have:=h.win _ hw
  exact absurd this (Nat.lt_irrefl _)
 ·rintro e w' ⟨he,hO⟩;rw[sY]at he hO
  exact⟨he,cV.comp (fun _ h=>.inl h) (fun _ h=>.inl h) (aa.of_below hb) hO⟩
def l7:aP:={ aP.zero with ds:=5 }
theorem ri:aP.zero.arr=#[.int .i64 0,.int .i64 0,.int .u8 0,.int .u8 0,.int .u8 0,.int .u8 0,.int .u8 0,.int .u8 0,.int .u8 0,.int .u8 0,.int .u8 0,.int .u8 0,.int .u8 0,.int .u8 0,.int .u8 0,.int .u8 0,.int .u8 0,.int .u8 0,.int .u8 0,.int .u8 0,.int .u8 0,.int .u8 0,.int .u8 0,.int .u8 0,.int .u8 0,.int .u8 0,.int .u8 0,.int .u8 0,.int .u8 0,.int .u8 0,.int .u8 0,.int .u8 0,.int .u8 0,.int .u8 0,.bool false,.bool false,.bool false,.int .i64 0,.int .i64 0]:=by kernel_rfl
theorem rX:l7.arr=#[.int .i64 0,.int .i64 0,.int .u8 0,.int .u8 0,.int .u8 0,.int .u8 0,.int .u8 0,.int .u8 0,.int .u8 0,.int .u8 0,.int .u8 0,.int .u8 0,.int .u8 0,.int .u8 0,.int .u8 0,.int .u8 0,.int .u8 0,.int .u8 0,.int .u8 0,.int .u8 0,.int .u8 0,.int .u8 0,.int .u8 0,.int .u8 0,.int .u8 0,.int .u8 0,.int .u8 0,.int .u8 0,.int .u8 0,.int .u8 0,.int .u8 0,.int .u8 0,.int .u8 0,.int .u8 0,.bool false,.bool false,.bool false,.int .i64 5,.int .i64 0]:=by kernel_rfl
theorem iy:aP.zero.Ok:=⟨fun _ _=>⟨Int.le_refl 0,by show(0:Int) < 256;decide⟩,fun _ _=>⟨Int.le_refl 0,by show(0:Int) < 256;decide⟩⟩
theorem gz:l7.Ok:=⟨fun _ _=>⟨Int.le_refl 0,by show(0:Int) < 256;decide⟩,fun _ _=>⟨Int.le_refl 0,by show(0:Int) < 256;decide⟩⟩
theorem db:aP.zero.Valid:=by unfold aP.zero aP.Valid;decide
theorem cH:l7.Valid:=by unfold l7 aP.zero aP.Valid;decide
def tS:TS:={ gT aP.zero with next:=1 }
theorem rY:tS.Fine:=⟨iy,db,fun q hq=>by cases hq⟩
theorem rG:(qS aP.zero).send 0=⟨4,cA aP.zero 0 2 (nf rt),0,0,tS⟩:=by
 unfold TS.send;rw[if_neg (by decide)]
 rfl
theorem rT:tS.send 0=⟨0,zB,0,10,tS⟩:=by
 unfold TS.send;rw[if_neg (by decide)]
 rfl
def cS:TS:={ gT l7 with now:=4,next:=1 }
def dS:TS:={ gT l7 with now:=5 }
theorem tt:(qS l7).send 4=⟨4,cA l7 0 2 (nf rt),0,0,cS⟩:=by
 unfold TS.send;rw[if_neg (by decide)]
 rfl
theorem sR:(qS l7).send 5=⟨0,zB,0,10,dS⟩:=by
 unfold TS.send;rw[if_neg (by decide)]
 rfl
theorem kr (w:World):Calls Tryz.prog 18 #[] w fun e w'=>e=.returned (.bool true)/\Below w.heap.size w w':=by
 have HN0:=zh (fun V=>j5 aP.zero db V);have HN5:=zh (fun V=>j5 l7 cH V);rw[ri]at HN0;rw[rX]at HN5;have kc:=fun(w:World) (C:Array Value) (n c:Nat)=>Lib.run_convert_bytes_const (P:=Tryz.prog) w 44 5 C n c Tryz.underlying44 Tryz.underlying5;go_enter Tryz.func18,Tryz.ntmps18;go_upto_region 2 with (go_at_call 19;with_reducible refine(HN0.out _).mono ?_;rintro e w1 ⟨gt,rfl,hO⟩;have O1:=zh hO;clear hO)
 go_upto_region 3 with (go_at_call 19;with_reducible refine(HN5.out _).mono ?_;rintro e w2 ⟨gd,rfl,hO⟩;have O2:=zh hO;clear hO)
 go_upto_region 4 with (go_at_call 19;with_reducible refine(HN5.out _).mono ?_;rintro e w3 ⟨gc,rfl,hO⟩;have O3:=zh hO;clear hO)
 have T3:=(sq O1.out O2.out O3.out).swap;clear O1 O2 O3;obtain⟨Wa,Ra,ia,ca,_⟩:=T3.call;have CA:=zh ca;have SA:=zh (pX aP.zero iy db rfl gt Wa Ra w3 ia);clear T3 ca ia;go_upto_region 6 with (first
  | (go_at_call 12;with_reducible refine(SC.out _).mono ?_;rintro e w6 ⟨rfl,hO⟩;have T6:=zh ((CC.out w6 _ hO).1.rot);clear hO)
  | (go_at_call 12;with_reducible refine(SB.out _).mono ?_;rintro e w5 ⟨rfl,hO⟩;obtain⟨Wc,Rc,ic,cc,_⟩:=((CB.out w5 _ hO).1.rot).call;have CC:=zh cc;have SC:=zh (pX l7 gz cH rfl gd Wc Rc w5 ic);clear hO ic cc)
  | (go_at_call 12;with_reducible refine(SA.out _).mono ?_;rintro e w4 ⟨rfl,hO⟩;obtain⟨Wb,Rb,ib,cb,_⟩:=((CA.out w4 _ hO).1.rot).call;have CB:=zh cb;have SB:=zh (pX l7 gz cH rfl gc Wb Rb w4 ib);clear hO ib cb))
 obtain⟨W6,R6,i6,_,c6⟩:=T6.out.call;have C6:=zh c6;have H7:=zh (fK gt (qS aP.zero) W6 R6 w6 i6 (j6 iy db) 0 (by decide) (by decide) (cX gt aP.zero iy db rfl rfl) (Nat.zero_le _));rw[rG]at H7;clear c6 i6;go_upto_region 7 with (go_at_call 13;with_reducible refine(H7.out).mono ?_;rintro e w7 hO;obtain⟨A,c,he,hc,hR,hT⟩:=C6.out w7 _ _ hO;dsimp only at he hc hR hT;subst he;have HR7:=zh hR;have T7:=zh hT;have hc4:(4:Int)<=(c:Int):=(by omega);clear hO hR hT)
 obtain⟨b,o,hA,hbl,hcl⟩:=HR7.out (by decide);subst hA;have y0:w7.cell? ⟨b,o+0,none⟩=some (.int .u8 128):=(hcl 0 (by decide)).trans (show some (Value.int .u8 ((cA aP.zero 0 2 (nf rt) 0:Nat):Int))=some (.int .u8 128)from rfl);have y1:w7.cell? ⟨b,o+1,none⟩=some (.int .u8 0):=(hcl 1 (by decide)).trans (show some (Value.int .u8 ((cA aP.zero 0 2 (nf rt) 1:Nat):Int))=some (.int .u8 0)from rfl);have Y0:=zh y0;have Y1:=zh y1;clear hcl y0 y1;obtain⟨N,hN⟩:∃N:Nat->Prop,N=fun k=>(4:Nat) ≠ 0/\∃a,(some ⟨b,o,none⟩:Option Addr)=some a/\k=a.block:=⟨_,rfl⟩
 have HNB:Hid (N b):=zh (by rw[hN];exact⟨by decide,_,rfl,rfl⟩);rw[<-hN]at T7;clear hN;obtain⟨W7,R7,i7,c7,_⟩:=T7.out.call;have C7:=zh c7;have H8:=zh (fK gt tS W7 R7 w7 i7 rY 0 (by decide) (by decide) (cX gt aP.zero iy db rfl rfl) (Nat.zero_le _));rw[rT]at H8;clear c7 i7;go_upto_region 8 with (go_at_call 13;with_reducible refine(H8.out).mono ?_;rintro e w8 hO;obtain⟨A,c2,he,hX⟩:=ks hO;dsimp only at he hX;subst he;have T8:=zh (C7.out w8 _ hX).1;have K8:=zh ((C7.out w8 _ hX).2 b HNB.out);clear hO hX)
 obtain⟨W8,R8,i8,_,_⟩:=T8.out.call;have H9:=zh (gJ gt tS W8 R8 w8 i8 0 (fun e he=>by cases he));clear i8;go_upto_region 9 with (go_at_call 24;with_reducible refine(H9.out).mono ?_;rintro e w9 ⟨rfl,hB⟩;have T9:=zh ((T8.out.below hB).rot);have B9:=zh hB;clear hB)
 have K9:Hid (w9.heap[b]? = w7.heap[b]?):=zh ((B9.out.block b (by
  obtain⟨_,_,_,_,_,_,_,_,_,_,_,_,hN,_⟩:=T8.out
  exact(hN b HNB.out).1)).trans K8.out)
 obtain⟨W9,R9,i9,c9,_⟩:=T9.out.call;have C9:=zh c9;have H10:=zh (fK gc (qS l7) W9 R9 w9 i9 (j6 gz cH) 4 (by decide) (by decide) (cX gc l7 gz cH rfl rfl) (Nat.zero_le _));rw[tt]at H10;clear c9 i9;go_upto_region 10 with (go_at_call 13;with_reducible refine(H10.out).mono ?_;rintro e w10 hO;obtain⟨A3,c3,he,hX⟩:=ks hO;dsimp only at he hX;subst he;have T10:=zh (C9.out w10 _ hX).1.rot;have K10:=zh (((C9.out w10 _ hX).2 b HNB.out).trans K9.out);clear hO hX)
 obtain⟨W10,R10,i10,c10,_⟩:=T10.out.call;have C10:=zh c10;have H11:=zh (fK gd (qS l7) W10 R10 w10 i10 (j6 gz cH) 5 (by decide) (by decide) (cX gd l7 gz cH rfl rfl) (Nat.zero_le _));rw[sR]at H11;clear c10 i10;go_upto_region 11 with (go_at_call 13;with_reducible refine(H11.out).mono ?_;rintro e w11 hO;obtain⟨A4,c4,he,hX⟩:=ks hO;dsimp only at he hX;subst he;have T11:=zh (C10.out w11 _ hX).1.rot;have K11:=zh (((C10.out w11 _ hX).2 b HNB.out).trans K10.out);clear hO hX)
 have z0:=(World.cell?_of_block (a:=⟨b,o+0,none⟩) K11.out).trans Y0.out;have z1:=(World.cell?_of_block (a:=⟨b,o+1,none⟩) K11.out).trans Y1.out;rw[Nat.add_zero]at z0;go_wp2;go_ret
 exact⟨rfl,T11.out.low⟩
end Go.Proofs.YtiiojpnckbglcaaGreat

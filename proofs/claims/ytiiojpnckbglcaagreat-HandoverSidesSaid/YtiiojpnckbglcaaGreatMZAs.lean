import Derived.Test.YtiiojpnckbglcaaGreatMTBs
import Derived.Test.YtiiojpnckbglcaaGreatMVSs
import Derived.Test.YtiiojpnckbglcaaGreatMVMs
import Derived.Test.YtiiojpnckbglcaaGreatB1s
set_option maxRecDepth 100000
set_option maxHeartbeats 1600000
set_option linter.unusedVariables false
set_option linter.unusedSimpArgs false
namespace Go.Proofs.YtiiojpnckbglcaaGreat
open Go.RowKit
def nf (f:Nat->Int):Nat->Nat:=fun j=>(f j).toNat
theorem cv {f:Nat->Int} {n:Nat} (h:∀j,j < n->0<=f j/\f j < 256) {j:Nat} (hj:j < n):((nf f j:Nat):Int)=f j:=Int.toNat_of_nonneg (h j hj).1
theorem fK {f:Nat->Int} {n:Nat} (h:∀j,j < n->0<=f j/\f j < 256) {j:Nat} (hj:j < n):nf f j < 256:=by
 have:=h j hj;unfold nf;omega
def iS (ct:Nat):Nat->Nat:=fun j=>if j=0 then 128+ct / 256 % 16 else ct % 256
theorem mF (ct j:Nat):iS ct j < 256:=by unfold iS;split<;>omega
def gy (v j:Nat):Nat:=v / 2 ^ (24-8*j) % 256
theorem tN (v j:Nat):gy v j < 256:=Nat.mod_lt _ (by decide)
def kr (cf:aZ) (n:Nat):Nat:=if cf.ig=true then n+4 else n
def fz (cf:aZ) (ct n:Nat) (z:Nat->Nat):Nat->Nat:=cD z n (gy (iy (nf cf.code) ct cf.b.toNat cf.d.toNat (cD (iS ct) 2 z) (2+n)))
theorem l6 {cf:aZ} {ct n:Nat} {z:Nat->Nat} (hz:∀j,j < n->z j < 256) (j:Nat):fz cf ct n z j < 256:=by
 unfold fz cD
 split
 ·exact hz _ (by assumption)
 ·exact tN _ _
def cy (cf:aZ) (n:Nat):Nat:=2+kr cf n
def gL (cf:aZ) (ct n:Nat) (z:Nat->Nat):Nat->Nat:=cD (iS ct) 2 (jK (nf cf.key) ct cf.b.toNat cf.d.toNat (fz cf ct n z))
def TS.gone (s:TS) (n:Int) (q:QV):Bool:=decide (0 < s.C.ds) && decide (s.C.ds<=n-q.at_)
def TS.tick (s:TS) (t:Int):TS:={ s with now:=max s.now t,Q:=s.Q.filter (fun q=>!s.gone (max s.now t) q) }
structure TS.Fine (s:TS):Prop where
 ok:s.C.Ok
 val:s.C.Valid
 at_:∀q,q∈s.Q->0<=q.at_/\q.at_<=s.now
theorem TS.Fine.tick {s:TS} (h:s.Fine) (t:Int):(s.tick t).Fine:=
 ⟨h.ok,h.val,fun q hq=>by
  have:=h.at_ q (List.mem_filter.1 hq).1;show 0<=q.at_/\q.at_<=max s.now t;omega⟩
theorem TS.tick_len (s:TS) (t:Int):(s.tick t).Q.length<=s.Q.length:=List.length_filter_le _ _
def TS.submit (s:TS) (t:Int) (n:Nat) (z:Nat->Int):Int×TS:=
 if 1073741824<=t then (2,s) else if n=0 then (5,s.tick t) else if 9000 < n then (4,s.tick t) else (0,{ s.tick t with Q:=(s.tick t).Q++[⟨n,z,max s.now t⟩] })
theorem TS.Fine.submit {s:TS} (h:s.Fine) (hn:0<=s.now) (t:Int) (n:Nat) (z:Nat->Int):(s.submit t n z).2.Fine:=by
 unfold TS.submit;have ht:=h.tick t
 split
 ·exact h
 ·split
  ·exact ht
  ·split
   ·exact ht
   ·refine⟨h.ok,h.val,fun q hq=>?_⟩;rcases List.mem_append.1 hq with hq | hq
    ·exact ht.at_ q hq
    ·rw[List.mem_singleton.1 hq];show 0<=max s.now t/\max s.now t<=max s.now t;omega
def bo:List PV->Option (Nat×PV)
 | []=>none
 | p :: r=>if p.rep=true then some (0,p) else (bo r).map fun x=>(x.1+1,x.2)
def TS.full (s:TS):Bool:=match s.P with | []=>false | p :: _=>decide (2048<=(s.next-p.ct) % 18446744073709551616)
structure NX where
 n:Nat
 z:Nat->Nat
 ct:Int
 e:Int
 s:TS
section
variable {P:Program}
theorem kI (w:World) (t e ty:TypeId) (z:Value) (ht:P.underlying t=some (.slice e)) (hv:∀w,(zeroValue e).run P w=.ok z w) (h1:∀v,v∈z.cells->v.oneCell'=true) (b o m c:Nat)
  (hc:∀j,j < m*z.cells.size->(w.cell? ⟨b,o+j,none⟩).isSome=true) (hf:∀j,j < m*z.cells.size->w.frozen? ⟨b,o+j,none⟩=false) :
  (Builtin.clear_ #[t] ty #[.slice (some ⟨b,o,none⟩) m c]).run P w=.ok (.tuple #[]) (w.setCells b o (Builtin.zeroCells z.cells m).toList):=by
 have hlen:(Builtin.zeroCells z.cells m).toList.length=m*z.cells.size:=by simp[Builtin.zeroCells]
 have hst:=run_storeCells_cells (P:=P) b o (Builtin.zeroCells z.cells m).toList 0 w (by rw[hlen];simpa using hc) (by rw[hlen];simpa using hf) (fun v hv=>by
  simp only[Builtin.zeroCells,Array.toList_map,List.mem_map,Array.mem_toList_iff,Array.mem_range]at hv;obtain⟨i,hi,rfl⟩:=hv;have hpos:0 < z.cells.size:=by
   rcases Nat.eq_zero_or_pos z.cells.size with h0 | h0
   ·rw[h0]at hi;simp at hi
   ·exact h0
  have hlt:i % z.cells.size < z.cells.size:=Nat.mod_lt _ hpos;rw[getElem!_pos z.cells (i % z.cells.size) hlt]
  exact h1 _ (Array.getElem_mem hlt))
 simp only[Nat.add_zero]at hst
 cases m with
 | zero=>simp[Builtin.clear_,run_underlying ht,Builtin.zeroCells,World.setCells]
 | succ m=>simp[Builtin.clear_,run_underlying ht,hv,hst]
end
theorem oc {α:Type} (f:α->List Value) (sz:Nat) (hf:∀x,(f x).length=sz) (l:List α) (k:Nat) (hk:k < l.length) (x:α) (j:Nat) :
  ((l.set k x).flatMap f)[j]? = if k*sz<=j/\j < k*sz+sz then (f x)[j-k*sz]? else (l.flatMap f)[j]?:=by
 rcases Nat.eq_zero_or_pos sz with h0 | hp
 ·subst h0;have hnil:∀l:List α,l.flatMap f=[]:=fun l=>List.eq_nil_of_length_eq_zero (by rw[dP f 0 hf];simp);rw[hnil,hnil];rw[if_neg (by omega)]
 ·have hj:=Nat.div_add_mod j sz;have hm:=Nat.mod_lt j hp;have hje:j=j / sz*sz+j % sz:=by rw[Nat.mul_comm];omega
  by_cases hjl:j / sz < l.length
  ·have e1:=bp f sz hf (l.set k x) (j / sz) (j % sz);have e2:=bp f sz hf l (j / sz) (j % sz);rw[<-hje]at e1 e2;by_cases hkj:j / sz=k
   ·rw[e1 x (by rw[hkj,List.getElem?_set_self hk]) hm,if_pos ⟨by rw[<-hkj];omega,by rw[<-hkj];omega⟩,show j-k*sz=j % sz by rw[<-hkj];omega]
   ·have hne:¬(k*sz<=j/\j < k*sz+sz):=fun⟨h1,h2⟩=>hkj (by
     exact Nat.div_eq_of_lt_le (m:=j) (n:=sz) (k:=k) h1 (by rw[Nat.add_mul];omega))
    rw[if_neg hne,e1 (l[j / sz]) (by rw[List.getElem?_set_ne (fun e=>hkj e.symm),List.getElem?_eq_getElem hjl]) hm,e2 (l[j / sz]) (List.getElem?_eq_getElem hjl) hm]
  ·have hge:l.length*sz<=j:=by
    have:=Nat.mul_le_mul_right sz (show l.length<=j / sz by omega);omega
   have hk2:(k+1)*sz<=l.length*sz:=Nat.mul_le_mul_right _ hk;rw[Nat.add_mul]at hk2;rw[if_neg (by omega),List.getElem?_eq_none (by rw[dP f sz hf,List.length_set];exact hge),List.getElem?_eq_none (by rw[dP f sz hf];exact hge)]
theorem SL.setAt {α:Type} {f:α->List Value} {w:World} {e:TypeId} {sz:Nat} (hf:∀x,(f x).length=sz) {b o n c:Nat} {l:List α} (h:SL w e sz (some ⟨b,o,none⟩) n c (l.flatMap f)) (k:Nat) (hk:k < n) (x:α) :
  SL (w.setCells b (o+k*sz) (f x)) e sz (some ⟨b,o,none⟩) n c ((l.set k x).flatMap f):=by
 have hln:l.length*sz=n*sz:=by rw[<-h.len,dP f sz hf]
 rcases h.at_ with ⟨h1,h2,h3⟩ | ⟨b',o',cur,h1,h2,h3,h4,h5,h6⟩
 ·cases h1
 cases h1
 have hks:(k+1)*sz<=n*sz:=Nat.mul_le_mul_right _ hk;have hcs:n*sz<=c*sz:=Nat.mul_le_mul_right _ h3;rw[Nat.add_mul]at hks;refine⟨by rw[dP f sz hf,List.length_set,hln],.inr ⟨b,o,_,rfl,bY (f x) _ w cur h2,h3,h4,by rw[bL];exact h5,fun j hj=>?_⟩⟩;rcases Nat.eq_zero_or_pos sz with h0 | hp
 ·subst h0;simp at hj
 have hkl:k < l.length:=by
  rcases Nat.lt_or_ge k l.length with h | h
  ·exact h
  ·have:=Nat.mul_le_mul_right sz h;omega
 rw[oc f sz hf l k hkl];by_cases hin:k*sz<=j/\j < k*sz+sz
 ·rw[if_pos hin];have:=dY (f x) (o+k*sz) cur (j-k*sz) (by rw[hf];omega) (by omega)
  rwa [show o+k*sz+(j-k*sz)=o+j by omega]at this
 ·rw[if_neg hin,cG _ _ _ _ (by rw[hf];omega),h6 j hj]
end Go.Proofs.YtiiojpnckbglcaaGreat
namespace Go.Proofs.YtiiojpnckbglcaaGreat
open Go.RowKit
attribute [local go_sem ↓] Go.wp_at_zero Go.wp_at_succ
structure DL {α:Type} (l:List α) (p:α->Bool) (j i:Nat) (L:List α):Prop where
 len:L.length=l.length
 ij:i<=j
 jl:j<=l.length
 pre:L.take i=(l.take j).filter (fun x=>!p x)
 rest:∀k,j<=k->L[k]? = l[k]?
theorem DL.start {α:Type} {l:List α} {p:α->Bool} {i:Nat} {x:α} (hx:l[i]? = some x) (hp:p x=true) (hno:∀k,k < i->∀y,l[k]? = some y->p y=false):DL l p (i+1) i l:=by
 have hil:i < l.length:=(List.getElem?_eq_some_iff.1 hx).1;have hxe:l[i] = x:=(List.getElem?_eq_some_iff.1 hx).2;refine⟨rfl,by omega,hil,?_,fun _ _=>rfl⟩;rw[List.take_succ_eq_append_getElem hil,List.filter_append,hxe];have:(l.take i).filter (fun x=>!p x)=l.take i:=List.filter_eq_self.2 fun y hy=>by
  obtain⟨k,hk,rfl⟩:=List.mem_iff_getElem.1 hy;have hk2:k < i:=by simp at hk;omega
  rw[List.getElem_take];simp[hno k hk2 l[k] (List.getElem?_eq_getElem (by omega))]
 rw[this];simp[hp]
theorem DL.keep {α:Type} {l L:List α} {p:α->Bool} {j i:Nat} {x:α} (h:DL l p j i L) (hx:l[j]? = some x) (hp:p x=false):DL l p (j+1) (i+1) (L.set i x):=by
 have hjl:j < l.length:=(List.getElem?_eq_some_iff.1 hx).1;have hxe:l[j] = x:=(List.getElem?_eq_some_iff.1 hx).2;have hij:=h.ij;have hlen:=h.len;refine⟨by simp[h.len],by omega,by omega,?_,fun k hk=>?_⟩
 ·rw[List.take_succ_eq_append_getElem hjl,List.filter_append,hxe,<-h.pre,List.take_succ_eq_append_getElem (by simp;omega)];simp[hp,List.take_set_of_le]
 ·rw[List.getElem?_set_ne (by omega)]
  exact h.rest k (by omega)
theorem DL.drop {α:Type} {l L:List α} {p:α->Bool} {j i:Nat} {x:α} (h:DL l p j i L) (hx:l[j]? = some x) (hp:p x=true):DL l p (j+1) i L:=by
 have hjl:j < l.length:=(List.getElem?_eq_some_iff.1 hx).1;have hxe:l[j] = x:=(List.getElem?_eq_some_iff.1 hx).2;have hij:=h.ij;refine⟨h.len,by omega,by omega,?_,fun k hk=>h.rest k (by omega)⟩;rw[List.take_succ_eq_append_getElem hjl,List.filter_append,hxe,<-h.pre];simp[hp]
theorem DL.done {α:Type} {l L:List α} {p:α->Bool} {i:Nat} (h:DL l p l.length i L):L.take i=l.filter (fun x=>!p x):=by
 have:=h.pre
 rwa [List.take_length]at this
theorem iD (p:Nat->Bool) (n:Nat):(∃i,i < n/\aL p 0 n=(i:Int)/\p i=true/\∀j,j < i->p j=false)\/(aL p 0 n = -1/\∀j,j < n->p j=false):=by
 have:∀d k,k+d=n->(∀j,j < k->p j=false)->(∃i,i < n/\aL p k d=(i:Int)/\p i=true/\∀j,j < i->p j=false)\/(aL p k d = -1/\∀j,j < n->p j=false):=by
  intro d
  induction d with
  | zero=>intro k h1 h2;exact .inr ⟨rfl,fun j hj=>h2 j (by omega)⟩
  | succ d ih=>
   intro k h1 h2;rw[aL];by_cases hk:p k=true
   ·rw[if_pos hk]
    exact .inl ⟨k,by omega,rfl,hk,h2⟩
   ·rw[if_neg hk];refine ih (k+1) (by omega) (fun j hj=>?_);by_cases hjk:j=k
    ·subst hjk;simpa using hk
    ·exact h2 j (by omega)
 exact this n 0 (by omega) (fun j hj=>absurd hj (by omega))
def wS (ds n a:Int):Bool:=decide (0 < ds) && decide (ds<=n-a)
theorem tT (ds n a:Int) (h1:0<=ds/\ds<=1073741824) (h2:0<=a/\a<=n) (h3:n < 1073741824) (A:Option Addr) (m c g tb:Nat) (w:World) (x0:w.cell? ⟨tb,0,none⟩=some (.pointer (some ⟨g,0,none⟩))) (x1:w.cell? ⟨g,37,none⟩=some (.int .i64 ds)) (x2:w.cell? ⟨g,40,none⟩=some (.int .i64 n)) (l1:tb < w.heap.size) (l2:g < w.heap.size) :
  Calls Tryz.prog 82 #[.agg #[.slice A m c,.int .i64 a],.pointer (some ⟨tb,0,none⟩)] w fun e w'=>e=.returned (.bool (wS ds n a))/\Below w.heap.size w w':=by
 have HG:=zh (show wS ds n a=(decide (0 < ds) && decide (ds<=n-a))from rfl);go_enter Tryz.func82,Tryz.ntmps82;go_upto_region 1 with (fail)
 refine ag (fun V=>V.cell? ⟨w.heap.size,1,none⟩=some (.int .i64 a)/\V.cell? ⟨tb,0,none⟩=some (.pointer (some ⟨g,0,none⟩))/\V.cell? ⟨g,37,none⟩=some (.int .i64 ds)/\V.cell? ⟨g,40,none⟩=some (.int .i64 n)/\Below w.heap.size w V) ⟨(ae.new _ _ _).cell 1,Lib.cell?_alloc_some _ x0,Lib.cell?_alloc_some _ x1,Lib.cell?_alloc_some _ x2,(Below.refl _ w).alloc ao _⟩ ?_;rintro W1 ⟨y,y0,y1,y2,b1⟩;have B1:=zh b1;obtain⟨bb,hbb⟩:=af w.heap.size
 rw[<-hbb]at y B1 ⊢;have HBB:=zh hbb;clear x0 x1 x2 b1 hbb;have s1:-9223372036854775808<=n-a:=by omega
 have s2:n-a<=9223372036854775807:=by omega
 by_cases c0:0 < ds
 ·have d0:decide (0 < ds)=true:=decide_eq_true c0;by_cases c1:ds<=n-a
  ·have d1:decide (ds<=n-a)=true:=decide_eq_true c1;go_quiet (fail);go_wp2;go_ret
   exact⟨ak (by rw[HG.out,d0,d1];first | rfl | simp[*]),by rw[<-HBB.out];exact aE B1.out _⟩
  ·have d1:decide (ds<=n-a)=false:=decide_eq_false c1;go_quiet (fail);go_wp2;go_ret
   exact⟨ak (by rw[HG.out,d0,d1];first | rfl | simp[*]),by rw[<-HBB.out];exact aE B1.out _⟩
 ·have d0:decide (0 < ds)=false:=decide_eq_false c0;go_quiet (fail);go_wp2;go_ret
  exact⟨ak (by rw[HG.out,d0];first | rfl | simp[*]),by rw[<-HBB.out];exact aE B1.out _⟩
def kK (lq:List WE) (p:WE->Bool) (k:Nat):Bool:=match lq[k]? with | some e=>p e | none=>false
def uK (p:WE->Bool) (tb:Nat) (lq:List WE) (W:World):Prop:=∀e,e∈lq->Calls Tryz.prog 82 #[.agg #[.slice e.A e.v.n e.c,.int .i64 e.v.at_],.pointer (some ⟨tb,0,none⟩)] W fun x w'=>x=.returned (.bool (p e))/\Below W.heap.size W w'
theorem sw (A:Option Addr) (n c:Nat) (lq:List WE) (hn:n=lq.length) (p:WE->Bool) (tb:Nat) (w:World) (h:SL w 96 2 A n c (lq.flatMap WE.cells)) (hx:∀W,Below w.heap.size w W->uK p tb lq W) :
  Calls Tryz.prog 105 #[.slice A n c,.func (.func 82) #[] #[.pointer (some ⟨tb,0,none⟩)]] w fun e w'=>e=.returned (.int .i64 (aL (kK lq p) 0 n))/\Below w.heap.size w w':=by
 have hcm:=h.cmax;have hle:=h.le;unfold maxLen at hcm;have HSL:=zh h;have HX:=zh hx;obtain⟨F,hF⟩:=af (kK lq p)
 have HF0:=zh hF;have HN:=zh hn;rw[<-hF];clear h hx hF hn;go_enter Tryz.func105,Tryz.ntmps105;go_wp2;go_loopw [8] (fun v wr=>∃k:Nat,k<=n/\v=.int .i64 k/\aL F 0 n=aL F k (n-k)/\Below w.heap.size w wr) (fun v _=>n-(intOf v).toNat)
 case atStart=>exact⟨0,by omega,rfl,rfl,Below.refl _ _⟩
 case round=>
  obtain⟨k,hk,rfl,hfw,hb⟩:=hrel;have HF:=zh hfw;have HB:=zh hb;clear hfw hb;by_cases hlt2:k < n
  ·obtain⟨e0,he0⟩:∃e0,lq[k]? = some e0:=⟨lq[k]'(by have:=HN.out;omega),by simp[HN.out ▸ hlt2]⟩
   have hS:=HSL.out.next HB.out;obtain⟨b,o,hA,hbl⟩:=hS.some_ (by omega);have c0:=hS.cell hA (j:=k*2+0) (by omega);have c1:=hS.cell hA (j:=k*2+1) (by omega);rw[bp WE.cells 2 WE.len lq k _ e0 he0 (by omega)]at c0 c1;have hFk:F k=p e0:=by rw[HF0.out];unfold kK;rw[he0]
   have HC:=zh (HX.out wr HB.out e0 (List.mem_of_getElem? he0));simp only[WE.cells,List.getElem?_cons_zero,List.getElem?_cons_succ,Nat.add_zero]at c0 c1;have HST:=zh (fM F k n hlt2);obtain⟨bb,hbb⟩:=af (p e0)
   rw[<-hbb]at HC hFk;have HFk:=zh hFk;subst hA;clear hbb hFk hS he0;have k0:(0:Int)<=(k:Int):=by omega
   have k1:(k:Int) < (n:Int):=by omega
   rw[<-Nat.add_assoc]at c1
   cases bb
   ·have HS2:=zh (HST.out.trans (if_neg (by rw[HFk.out];decide)));go_wp2_with (go_at_call 82;refine(HC.out).mono ?_;rintro e w2 ⟨rfl,hB2⟩;have HB2:=zh (HB.out.trans (hB2.mono HB.out.size));clear hB2);go_roundw
    case rel=>exact⟨k+1,by omega,by go_num,by rw[HF.out,HS2.out],HB2.out⟩
    case measure=>simp[intOf];omega
   ·have HS2:=zh (HST.out.trans (if_pos HFk.out));go_wp2_with (go_at_call 82;refine(HC.out).mono ?_;rintro e w2 ⟨rfl,hB2⟩;have HB2:=zh (HB.out.trans (hB2.mono HB.out.size));clear hB2);go_ret
    exact⟨eY (by rw[HF.out,HS2.out]),HB2.out⟩
  ·obtain rfl:k=n:=by omega
   have HF2:=zh (show aL F 0 k = -1 by rw[HF.out,Nat.sub_self];rfl);clear HF;go_wp2;go_ret
   exact⟨eY HF2.out.symm,HB.out⟩
theorem sC (w:World):(zeroValue 96).run Tryz.prog w=.ok (.agg #[.slice none 0 0,.int .i64 0]) w:=by kernel_rfl
theorem pL (lq:List WE) (k:Nat):(lq.flatMap WE.cells).take (k*2)=(lq.take k).flatMap WE.cells:=by
 induction lq generalizing k with
 | nil=>simp
 | cons x r ih=>
  cases k with
  | zero=>simp
  | succ k=>rw[List.flatMap_cons,List.take_succ_cons,List.flatMap_cons,<-ih k,show(k+1)*2=(WE.cells x).length+k*2 from by show _=2+k*2;omega,List.take_length_add_append]
theorem pd (A:Option Addr) (n c:Nat) (lq:List WE) (hn:n=lq.length) (p:WE->Bool) (tb:Nat) (w:World) (h:SL w 96 2 A n c (lq.flatMap WE.cells)) (hx:∀W,aa (fun k=>∃a,A=some a/\k=a.block) w W->uK p tb lq W) :
  Calls Tryz.prog 81 #[.slice A n c,.func (.func 82) #[] #[.pointer (some ⟨tb,0,none⟩)]] w fun e w'=>e=.returned (.slice A (lq.filter fun x=>!p x).length c)/\SL w' 96 2 A (lq.filter fun x=>!p x).length c ((lq.filter fun x=>!p x).flatMap WE.cells)/\aa (fun k=>∃a,A=some a/\k=a.block) w w':=by
 have hcm:=h.cmax;have hle:=h.le;unfold maxLen at hcm;have HSL:=zh h;have HN:=zh hn;have HX:=zh hx;have HI:=zh (sw A n c lq hn p tb w h (fun W hW=>hx W (aa.of_below hW)));rcases iD (kK lq p) n with ⟨i0,hi,hf,hp,hno⟩ | ⟨hf,hno⟩
 ·obtain⟨b,o,rfl,hbl⟩:=h.some_ (by omega);rw[hf]at HI;obtain⟨e0,he0⟩:∃e0,lq[i0]? = some e0:=⟨lq[i0]'(by omega),by simp[hn ▸ hi]⟩
  have hp0:p e0=true:=by unfold kK at hp;rw[he0]at hp;exact hp
  have hno0:∀k,k < i0->∀y,lq[k]? = some y->p y=false:=fun k hk y hy=>by
   have:=hno k hk;unfold kK at this;rw[hy]at this
   exact this
  have HD0:=zh (DL.start he0 hp0 hno0);clear h hn hx hf hp hno he0 hp0 hno0;have i0n:(0:Int)<=(i0:Int):=by omega
  have n9:(n:Int)<=9223372036854775807:=by omega
  have i9:(i0:Int)<=9223372036854775806:=by omega
  go_enter Tryz.func81,Tryz.ntmps81;go_wp2_with (go_at_call 105;refine(HI.out).mono ?_;rintro e w1 ⟨rfl,hB1⟩;have HB1:=zh hB1;clear hB1);go_loopw [5,6] (fun v5 v6 wr=>∃(j i:Nat) (L:List WE),v5=.int .i64 i/\v6=.int .i64 j/\i < j/\DL lq p j i L/\SL wr 96 2 (some ⟨b,o,none⟩) n c (L.flatMap WE.cells)/\aa (fun k=>k=b) w wr) (fun _ v _=>n-(intOf v).toNat)
  case atStart=>exact⟨i0+1,i0,lq,rfl,by go_num,by omega,HD0.out,HSL.out.next HB1.out,aa.of_below HB1.out⟩
  case round=>
   obtain⟨j,i,L,rfl,rfl,hij,hD,hS,hK⟩:=hrel;have HD:=zh hD;have HS:=zh hS;have HK:=zh hK;have hjl:=hD.jl;rw[<-HN.out]at hjl;clear hD hS hK;have hin:i < n:=by omega
   have j0:(0:Int)<=(j:Int):=by omega
   have k0:(0:Int)<=(i:Int):=by omega
   have k1:(i:Int) < (n:Int):=by omega
   by_cases hlt:j < n
   ·obtain⟨x,hxj⟩:∃x,lq[j]? = some x:=⟨lq[j]'(by have:=HN.out;omega),by simp[HN.out ▸ hlt]⟩
    have HXJ:=zh hxj;have hLj:L[j]? = some x:=(HD.out.rest j ao).trans hxj;have c0:=HS.out.cell rfl (j:=j*2+0) (by omega);have c1:=HS.out.cell rfl (j:=j*2+1) (by omega);rw[bp WE.cells 2 WE.len L j _ x hLj (by omega)]at c0 c1;simp only[WE.cells,List.getElem?_cons_zero,List.getElem?_cons_succ,Nat.add_zero]at c0 c1;rw[<-Nat.add_assoc]at c1;have HC:=zh (fun(V:World) (hV:Below wr.heap.size wr V)=>HX.out V ((HK.out.trans (aa.of_below (F:=fun k=>k=b) hV) (fun _ _ h=>h)).mono (fun k e=>⟨_,rfl,e⟩)) x (List.mem_of_getElem? hxj));have j1:(j:Int) < (n:Int):=by omega
    have hbl2:=HS.out.lt rfl;clear hxj hLj;go_upto_region 8 with (fail)
    refine ag (fun V=>ae V wr.heap.size 96 #[.slice x.A x.v.n x.c,.int .i64 x.v.at_]/\Below wr.heap.size wr V) ⟨ae.new _ _ _,(Below.refl _ wr).alloc ao _⟩ ?_;rintro V2 ⟨b1,b2⟩;have v0:=b1.cell 0;have v1:=b1.cell 1;simp only[List.getElem?_toArray,List.getElem?_cons_zero,List.getElem?_cons_succ]at v0 v1;have HC2:=zh (HC.out V2 b2);have B1:=zh b1;have B2:=zh b2;obtain⟨vb,hvb⟩:=af wr.heap.size
    have HVB:=zh hvb;obtain⟨bb,hbb⟩:=af (p x)
    have HPX:=zh hbb;rw[<-hbb]at HC2;rw[<-hvb]at v0 v1 B1 B2 ⊢;clear b1 b2 hvb hbb c0 c1
    cases bb
    ·go_upto_region 9 with (go_at_call 82;refine(HC2.out).mono ?_;rintro e w2 ⟨rfl,hB3⟩;have HB3:=zh hB3;clear hB3)
     have hB12:=zh (B2.out.trans (HB3.out.mono (by have:=B1.out.lt;omega)));have K2:=zh (HK.out.trans (aa.of_below (F:=fun k=>k=b) (hB12.out.mono (by rw[HVB.out];exact Nat.le_refl _))) (fun _ _ h=>h));have S2:=zh (HS.out.next (hB12.out.mono (by rw[HVB.out];exact Nat.le_refl _)));have B3:=B1.out.below HB3.out B1.out.lt;have u0:=B3.cell 0;have u1:=B3.cell 1;simp only[List.getElem?_toArray,List.getElem?_cons_zero,List.getElem?_cons_succ]at u0 u1;obtain⟨y,hy⟩:∃y,L[i]? = some y:=⟨L[i]'(by rw[HD.out.len,<-HN.out];exact hin),List.getElem?_eq_getElem _⟩
     have d0:=S2.out.cell rfl (j:=i*2+0) (by omega);have d1:=S2.out.cell rfl (j:=i*2+1) (by omega);rw[bp WE.cells 2 WE.len L i _ y hy (by omega)]at d0 d1;simp only[WE.cells,List.getElem?_cons_zero,List.getElem?_cons_succ,Nat.add_zero]at d0 d1;rw[<-Nat.add_assoc]at d1;have f0:=S2.out.frozen rfl (o+i*2);have f1:=S2.out.frozen rfl (o+i*2+1);clear v0 v1 B3 hy;go_upto_region 10 with (fail)
     refine ag (fun V=>SL V 96 2 (some ⟨b,o,none⟩) n c ((L.set i x).flatMap WE.cells)/\aa (fun k=>k=b) w V) ⟨S2.out.setAt WE.len i hin x,K2.out.trans (gc (F:=fun k=>k=b) (b:=b) rfl x.cells (o+i*2) w2) (fun _ _ h=>h)⟩ ?_;rintro V3 ⟨s1,s2⟩;have S3:=zh s1;have K3:=zh s2;have HD3:=zh (HD.out.keep HXJ.out HPX.out.symm);clear s1 s2 u0 u1 d0 d1 f0 f1;go_wp2;go_roundw
     case rel=>((repeat apply Exists.intro);refine⟨?_,rfl⟩);exact⟨j+1,i+1,L.set i x,by go_num,by go_num,by omega,HD3.out,S3.out,K3.out⟩
     case measure=>simp[intOf];omega
    ·have HD3:=zh (HD.out.drop HXJ.out HPX.out.symm);go_wp2_with (go_at_call 82;refine(HC2.out).mono ?_;rintro e w2 ⟨rfl,hB3⟩;have HB3:=zh hB3;clear hB3);have hB12:=zh (B2.out.trans (HB3.out.mono (by have:=B1.out.lt;omega)));go_roundw
     case rel=>((repeat apply Exists.intro);refine⟨?_,rfl⟩);exact⟨j+1,i,L,by go_num,by go_num,by omega,HD3.out,HS.out.next (hB12.out.mono (by rw[HVB.out];exact Nat.le_refl _)),HK.out.trans (aa.of_below (F:=fun k=>k=b) (hB12.out.mono (by rw[HVB.out];exact Nat.le_refl _))) (fun _ _ h=>h)⟩
     case measure=>simp[intOf];omega
   ·obtain rfl:j=n:=by omega
    have hdone:=(HN.out ▸ HD.out).done;have hil:i=(lq.filter fun x=>!p x).length:=by
     rw[<-hdone,List.length_take,HD.out.len,<-HN.out];omega
    have HDN:=zh hdone;have HIL:=zh hil;have hci:¬c=i:=by omega
    have hci2:¬c < i:=by omega
    have c9:(c:Int)<=9223372036854775807:=by omega
    have kc:(i:Int)<=(c:Int):=by omega
    have kn:(j:Int)<=(c:Int):=by omega
    have hzs:(#[.slice none 0 0,.int .i64 0]:Array Value).size=2:=rfl;have hcl:∀ty,(Builtin.clear_ #[88] ty #[.slice (some ⟨b,o+i*2,none⟩) (j-i) (c-i)]).run Tryz.prog wr=.ok (.tuple #[]) (wr.setCells b (o+i*2) (Builtin.zeroCells #[.slice none 0 0,.int .i64 0] (j-i)).toList):=fun ty=>
     kI wr 88 96 ty (.agg #[.slice none 0 0,.int .i64 0]) Tryz.underlying88 sC (by simp[Value.cells,Value.oneCell']) b (o+i*2) (j-i) (c-i)
      (fun q hq=>by
       have hq2:q < (j-i)*2:=hq;have:=HS.out.room (j:=i*2+q) (by omega)
       rwa [<-Nat.add_assoc]at this) (fun q hq=>HS.out.frozen rfl _)
    obtain⟨ZC,hZC⟩:=af ((Builtin.zeroCells #[.slice none 0 0,.int .i64 0] (j-i)).toList)
    rw[<-hZC]at hcl;have HF:=zh ((HS.out.take i (by omega)).past (i*2) ao ZC);have HG:=zh (HK.out.trans (gc (F:=fun k=>k=b) (b:=b) rfl ZC (o+i*2) wr) (fun _ _ h=>h));obtain⟨wB,hwB⟩:=af (wr.setCells b (o+i*2) ZC)
    rw[<-hwB]at hcl HF HG;clear hwB hZC hdone hil;go_wp2;go_ret;have hh:=HF.out;rw[pL,HDN.out]at hh;rw[<-HIL.out]
    exact⟨rfl,hh,HG.out.mono (fun k e=>⟨_,rfl,e⟩)⟩
 ·rw[hf]at HI;have hall:(lq.filter fun x=>!p x)=lq:=List.filter_eq_self.2 fun y hy=>by
   obtain⟨k,hk,rfl⟩:=List.mem_iff_getElem.1 hy;have:=hno k (by omega);unfold kK at this;rw[List.getElem?_eq_getElem hk]at this;simp only at this;rw[this]
   rfl
  rw[hall,<-hn];clear h hn hx hf hno hall;go_enter Tryz.func81,Tryz.ntmps81;go_wp2_with (go_at_call 105;refine(HI.out).mono ?_;rintro e w1 ⟨rfl,hB1⟩;have HB1:=zh hB1;clear hB1);go_ret
  exact⟨rfl,HSL.out.next HB1.out,aa.of_below HB1.out⟩
theorem uH (lq:List WE) (p:QV->Bool):(lq.filter fun e=>!p e.v).map (·.v)=(lq.map (·.v)).filter fun q=>!p q:=by
 rw[List.filter_map];rfl
theorem bX (g:Nat) (s:TS) (W R:Nat->Prop) (w:World) (h:dK w g s W R) (hf:s.Fine) (t:Int) (ht1:-9223372036854775808<=t) (ht2:t<=9223372036854775807) :
  Calls Tryz.prog 42 #[.pointer (some ⟨g,0,none⟩),.int .i64 t] w fun e w'=>e=.returned (.int .i64 (if 1073741824<=t then 2 else 0))/\jy W R w w' g (if 1073741824<=t then s else s.tick t):=by
 have HM:=zh (fun(V:World) (hb:Below w.heap.size w V)=>j5 g s W R V (h.below hb));have HI:=zh h;obtain⟨qA,qc,lq,pA,pc,lp,ub,cb,hT⟩:=h;have HT:=zh hT;have HF:=zh hf;have hgl:=hT.blk.lt;clear hT hf;by_cases ct:1073741824<=t
 ·rw[if_pos ct,if_pos ct];go_enter Tryz.func42,Tryz.ntmps42;go_upto_region 1 with (fail)
  refine ag (fun V=>V.cell? ⟨w.heap.size,0,none⟩=some (.pointer (some ⟨g,0,none⟩))/\Below w.heap.size w V/\w.heap.size < V.heap.size) ⟨(ae.new _ _ _).cell 0,(Below.refl _ w).alloc ao _,by simp⟩ ?_;rintro W1 ⟨b1,b2,b3⟩;obtain⟨tb,htb⟩:=af w.heap.size
  have HTB:=zh htb;have B2:=zh b2;rw[<-htb]at b1 b3 ⊢;clear b2 htb;go_wp2_with (go_at_call 49;refine(HM.out _ B2.out).mono ?_;rintro e w2 ⟨rfl,rfl⟩);go_ret
  exact⟨rfl,jy.same HI.out B2.out⟩
 rw[if_neg ct,if_neg ct];go_enter Tryz.func42,Tryz.ntmps42;go_upto_region 1 with (fail)
 refine ag (fun V=>V.cell? ⟨w.heap.size,0,none⟩=some (.pointer (some ⟨g,0,none⟩))/\Below w.heap.size w V/\w.heap.size < V.heap.size) ⟨(ae.new _ _ _).cell 0,(Below.refl _ w).alloc ao _,by simp⟩ ?_;rintro W1 ⟨b1,b2,b3⟩;obtain⟨tb,htb⟩:=af w.heap.size
 have HTB:=zh htb;have B2:=zh b2;rw[<-htb]at b1 b3 ⊢;clear b2 htb;go_upto_region 5 with (go_at_call 49;refine(HM.out _ B2.out).mono ?_;rintro e w2 ⟨rfl,rfl⟩)
 have T1:=zh (HT.out.below B2.out);have c1:=T1.out.cnow;have hn0:=HT.out.now0;obtain⟨nw,hnw⟩:=af s.now
 rw[<-hnw]at c1 hn0;have f1:=T1.out.blk.frozen 40;obtain⟨mx,hmx⟩:=af (max nw t)
 have HMX:=zh hmx;have HNW:=zh hnw;clear hnw;go_region;have hmx2:(if nw < t then t else nw)=mx:=by rw[HMX.out];split<;>omega
 rw[hmx2];have hmr:0<=mx/\mx < 1073741824:=by rw[HMX.out];omega
 have TM:=T1.out.setNow mx hmr;have HTG:=zh (show tb ≠ g by have:=HTB.out;omega);have kg:aa (fun k=>k=g) W1 (W1.setCell ⟨g,40,none⟩ (.int .i64 mx)):=(aa.refl (F:=fun k=>k=g)).setCell (p:=⟨g,40,none⟩) rfl _;refine ke (fun V=>bN V g { s with now:=mx } W R qA qc lq pA pc lp ub cb/\aa W w V/\V.cell? ⟨tb,0,none⟩=some (.pointer (some ⟨g,0,none⟩))/\tb < V.heap.size) ⟨TM.below (Below.refl _ _).drew,((aa.of_below B2.out).setCell (p:=⟨g,40,none⟩) T1.out.wg _).drew,(kg.drew.cell (p:=⟨tb,0,none⟩) b3 HTG.out).trans b1,bg b3 kg.drew.size⟩ ?_;rintro V ⟨d1,d2,d3,d4⟩;have TV:=zh d1;have KV:=zh d2;obtain⟨w0,hw0⟩:=af V.drew
 have hb0:Below V.heap.size V w0:=by rw[hw0];exact(Below.refl _ _).drew
 have HQB:=zh (show ∀a,qA=some a->tb ≠ a.block from fun a ha e=>by have:=HT.out.q.lt ha;have:=HTB.out;omega);have HSB:=zh (show ∀W',aa (fun j=>j=g\/∃a,qA=some a/\j=a.block) V W'->W'.cell? ⟨tb,0,none⟩=some (.pointer (some ⟨g,0,none⟩))from fun W' hW=>(hW.cell (p:=⟨tb,0,none⟩) d4 (fun h=>by rcases h with h | ⟨a,ha,e⟩;exact HTG.out h;exact HQB.out a ha e)).trans d3);have T0:=zh (TV.out.below hb0);have HD4:=zh d4;have HP:=zh (show ∀W',aa (fun k=>∃a,qA=some a/\k=a.block) w0 W'->uK (fun e=>s.gone mx e.v) tb lq W' from fun W' hW e he=>by
  have hS:=HSB.out W' (((aa.of_below hb0).trans hW (fun k _ h=>h)).mono (fun k h=>.inr h));have hg:¬∃a,qA=some a/\g=a.block:=fun⟨a,ha,e⟩=>T0.out.gq a ha e;have hgl0:=T0.out.blk.lt;have ha:=HF.out.at_ e.v (by rw[<-T0.out.qv];exact List.mem_map_of_mem he);have hv:=HF.out.val
  exact tT s.C.ds mx e.v.at_ ⟨hv.2.2.2.1,hv.2.2.2.2.1⟩ ⟨ha.1,by rw[HMX.out];have:=HNW.out;omega⟩ hmr.2 e.A e.v.n e.c g tb W' hS
   ((hW.cell (p:=⟨g,37,none⟩) hgl0 hg).trans (T0.out.cC (j:=37) (by decide))) ((hW.cell (p:=⟨g,40,none⟩) hgl0 hg).trans T0.out.cnow) (bg HD4.out (ba hb0.size hW.size)) (bg hgl0 hW.size))
 clear d1 d2 d3 b1 b3 kg TM c1 f1 hmx2 B2 T1;go_upto_region 6 with (fail)
 refine wp_region_held_drew (S:=fun w'=>aa (fun j=>j=g\/∃a,qA=some a/\j=a.block) V w') (by kernel_rfl) ((aa.refl (w:=V)).drew) (fun hHeld=>?_);rw[<-hw0];rw[<-hw0]at hHeld;clear hw0;refine ed (i:=0) (x:=some 20) (v:=.pointer (some ⟨g,0,none⟩)) rfl (.inl ⟨by rfl,fun W hW=>(by have:=HSB.out W hW;go_simp)⟩) ?_;refine ed (i:=1) (x:=some 21) (v:=.pointer (some ⟨g,0,none⟩)) rfl (.inl ⟨by rfl,fun W hW=>(by have:=HSB.out W hW;go_simp)⟩) ?_;refine bF (i:=2) (x:=some 22) (v:=.pointer (some ⟨g,0,none⟩)) rfl ?_;refine bF (i:=3) (x:=some 23) (v:=.pointer (some ⟨g,42,none⟩)) rfl ?_;refine bF (i:=5) (x:=some 25) (v:=.func (.func 82) #[] #[.pointer (some ⟨tb,0,none⟩)]) rfl ?_;refine bc (i:=4) (x:=some 24) rfl fun K hK=>?_;have h42:=T0.out.cq;obtain⟨n,hn⟩:=af lq.length
 have HN:=zh hn;rw[<-hn]at h42;have HDL:=zh (pd qA n qc lq hn (fun e=>s.gone mx e.v) tb w0 (by rw[hn];exact T0.out.q) HP.out);obtain⟨lq',hlq⟩:∃lq',lq'=lq.filter fun e=>!s.gone mx e.v:=⟨_,rfl⟩
 have HLQ:=zh hlq;rw[<-hlq]at HDL;clear hn hlq;go_simp;refine hK.out _ _ hHeld (fun hHeld=>?_);clear hK K h42
 try simp only[Act.put,qa,qb,qc]
 refine bc (i:=6) (x:=some 26) rfl fun K hK=>?_;go_simp;refine(HDL.out).mono ?_;rintro e wD ⟨rfl,hSD,hKD⟩;dsimp only;have SD:=zh hSD;have KD:=zh hKD;obtain⟨n',hn'⟩:=af lq'.length
 have HN':=zh hn';rw[<-hn'];have hg9:ae wD g 91 _:=hKD.blk T0.out.blk (fun⟨a,ha,e⟩=>T0.out.gq a ha e);have hc43:wD.cell? ⟨g,42,none⟩=some (.slice qA lq.length qc):=(hg9.cell 42).trans (bv s.C.arr_size 3);have hf43:=hg9.frozen 42;refine hK.out _ _ (hHeld.trans hKD (fun j _ hj=>.inr hj)) (fun hHeld=>?_);clear hK K hSD hKD hn' hg9
 try simp only[Act.put,qa,qb,qc]
 refine bF (i:=7) (x:=some 27) (v:=.pointer (some ⟨g,0,none⟩)) rfl ?_;refine bF (i:=8) (x:=some 28) (v:=.pointer (some ⟨g,42,none⟩)) rfl ?_;refine bc (i:=9) (x:=none) rfl fun K hK=>?_;have hlen:lq'.length=n':=HN'.out.symm;have TF:=T0.out.setQ (lq':=lq') (qA':=qA) (qc':=qc) (w1:=wD) KD.out (fun a ha=>.inl ⟨a,ha,rfl⟩) SD.out (fun e he=>(T0.out.qe e (by rw[HLQ.out]at he;exact(List.mem_filter.1 he).1)).keep KD.out (fun j ⟨a,ha,e2⟩ hr=>T0.out.dis j (by rw[e2];exact T0.out.wq a ha) hr));rw[hlen]at TF;have HTF:=zh TF;have hS9:aa (fun j=>j=g\/∃a,qA=some a/\j=a.block) V (wD.setCell ⟨g,42,none⟩ (.slice qA n' qc)):=hHeld.setCell (p:=⟨g,42,none⟩) (.inl rfl) _;have HKF:=zh (KV.out.trans hS9 (fun k _ h=>by rcases h with h | ⟨a,ha,e⟩;rw[h];exact TV.out.wg;rw[e];exact TV.out.wq a ha));clear TF hlen;go_simp;refine hK.out _ _ hS9 (fun hHeld=>?_);clear hK K hS9
 try simp only[Act.put]
 refine wpAnyH_done (by kernel_rfl) ?_ _;go_wp2;go_ret;refine⟨rfl,(fun k=>W k\/∃a,qA=some a/\k=a.block),R,⟨qA,qc,lq',pA,pc,lp,ub,cb,?_⟩,?_,fun k hr=>.inl hr,HKF.out⟩
 ·have hh:=HTF.out;have e1:lq'.map (·.v)=(s.tick t).Q:=by
   rw[HLQ.out,uH,T0.out.qv,HMX.out,HNW.out];rfl
  have e2:s.tick t={ s with now:=mx,Q:=lq'.map (·.v) }:=by
   rw[e1,HMX.out,HNW.out];rfl
  rw[e2]
  exact hh
 ·rintro k (hk | ⟨a,ha,rfl⟩)
  ·exact .inl hk
  ·exact .inl (T0.out.wq a ha)
theorem jy.comp {W R W1 R1:Nat->Prop} {w w1 w2:World} {g:Nat} {s:TS} (hW:∀k,W1 k->W k\/w.heap.size<=k) (hR:∀k,R1 k->R k\/w.heap.size<=k) (hK:aa W w w1) (h:jy W1 R1 w1 w2 g s):jy W R w w2 g s:=by
 obtain⟨W2,R2,h1,h2,h3,h4⟩:=h;have hs:=hK.size;refine⟨W2,R2,h1,fun k hk=>?_,fun k hk=>?_,hK.trans h4 (fun b hb h=>?_)⟩
 ·rcases h2 k hk with h | h
  ·exact hW k h
  ·exact .inr (by omega)
 ·rcases h3 k hk with h | h
  ·exact hR k h
  ·exact .inr (by omega)
 ·rcases hW b h with h | h
  ·exact h
  ·omega
structure oR (w:World) (W:Nat->Prop) (A:Option Addr) (n:Nat) (z:Nat->Int):Prop where
 row:au w w.heap.size A n (fun j=>.int .u8 (z j))
 byte:∀j,j < n->0<=z j/\z j < 256
 out:∀a,A=some a->n ≠ 0->¬W a.block
theorem oR.keep {w w1:World} {W W1:Nat->Prop} {A:Option Addr} {n:Nat} {z:Nat->Int} (h:oR w W A n z) (hk:aa W w w1) (hW:∀k,W1 k->W k\/w.heap.size<=k):oR w1 W1 A n z:=
 ⟨(hk.row h.row ao h.out).more hk.size,h.byte,fun a e hn hw=>by
  obtain⟨b,off,e2,hb,_⟩:=h.row (by omega);rw[e2]at e
  cases e
  rcases hW _ hw with h1 | h1
  ·exact h.out _ e2 hn h1
  ·have:b < w.heap.size:=hb;have:w.heap.size<=b:=h1;omega⟩
theorem jj (g:Nat) (s:TS) (W R:Nat->Prop) (w:World) (h:dK w g s W R) (hf:s.Fine) (t:Int) (ht1:-9223372036854775808<=t) (ht2:t<=9223372036854775807) (A:Option Addr) (n c:Nat) (z:Nat->Int) (ha:oR w W A n z) (hbad:1073741824<=t\/n=0\/9000 < n) (hn9:n<=1000000) :
  Calls Tryz.prog 12 #[.pointer (some ⟨g,0,none⟩),.int .i64 t,.slice A n c] w fun e w'=>e=.returned (.int .i64 (s.submit t n z).1)/\jy W R w w' g (s.submit t n z).2:=by
 unfold TS.submit;by_cases ct:1073741824<=t
 ·rw[if_pos ct];have HTK:=zh (bX g s W R w h hf t ht1 ht2);have HA:=zh ha;have HF:=zh hf;have n0:(0:Int)<=(n:Int):=by omega
  clear h hf ha;go_enter Tryz.func12,Tryz.ntmps12;rw[if_pos ct,if_pos ct]at HTK;go_wp2_with (go_at_call 42;refine(HTK.out).mono ?_;rintro e w1 ⟨rfl,hO⟩;have HO:=zh hO;clear hO);go_ret
  exact⟨rfl,HO.out⟩
 rw[if_neg ct];by_cases cn:n=0
 ·rw[if_pos cn];have hz:(n:Int)=0:=by omega
  have HTK:=zh (bX g s W R w h hf t ht1 ht2);have HA:=zh ha;have HF:=zh hf;have n0:(0:Int)<=(n:Int):=by omega
  clear h hf ha;go_enter Tryz.func12,Tryz.ntmps12;rw[if_neg ct,if_neg ct]at HTK;go_wp2_with (go_at_call 42;refine(HTK.out).mono ?_;rintro e w1 ⟨rfl,hO⟩;have HO:=zh hO;clear hO);go_ret
  exact⟨rfl,HO.out⟩
 rw[if_neg cn];have cl:9000 < n:=by omega
 rw[if_pos cl];have HTK:=zh (bX g s W R w h hf t ht1 ht2);have HA:=zh ha;have HF:=zh hf;have n0:(0:Int)<=(n:Int):=by omega
 clear h hf ha;go_enter Tryz.func12,Tryz.ntmps12;rw[if_neg ct,if_neg ct]at HTK;have hl1:¬((n:Int)=0):=by omega
 have hl2:(9000:Int) < (n:Int):=by omega
 have hl3:(n:Int)<=9223372036854775807:=by omega
 go_wp2_with (go_at_call 42;refine(HTK.out).mono ?_;rintro e w1 ⟨rfl,hO⟩;have HO:=zh hO;clear hO);go_ret
 exact⟨rfl,HO.out⟩
theorem oS (g:Nat) (s:TS) (W R:Nat->Prop) (w:World) (h:dK w g s W R) (hf:s.Fine) (hcm:s.C.cm=false) (hql:s.Q.length<=1000000) (t:Int) (ht1:-9223372036854775808<=t) (ht2:t<=9223372036854775807) (A:Option Addr) (n c:Nat) (z:Nat->Int) (ha:oR w W A n z) (hn9:n<=1000000) :
  Calls Tryz.prog 12 #[.pointer (some ⟨g,0,none⟩),.int .i64 t,.slice A n c] w fun e w'=>e=.returned (.int .i64 (s.submit t n z).1)/\jy W R w w' g (s.submit t n z).2:=by
 by_cases hbad:1073741824<=t\/n=0\/9000 < n
 ·exact jj g s W R w h hf t ht1 ht2 A n c z ha hbad hn9
 have ct:¬1073741824<=t:=fun h=>hbad (.inl h);have cn:¬n=0:=fun h=>hbad (.inr (.inl h));have cl:¬9000 < n:=fun h=>hbad (.inr (.inr h));unfold TS.submit;rw[if_neg ct,if_neg cn,if_neg cl];have HTK:=zh (bX g s W R w h hf t ht1 ht2);have HA:=zh ha;have HF:=zh hf;have n0:(0:Int)<=(n:Int):=by omega
 clear h hf ha;go_enter Tryz.func12,Tryz.ntmps12;rw[if_neg ct,if_neg ct]at HTK;have HCM:=zh hcm;have HQL:=zh (ba (s.tick_len t) hql);have HNP:Hid (1<=n/\n<=9000):=zh (by omega);have hl1:¬((n:Int)=0):=by omega
 have hl2:¬(9000:Int) < (n:Int):=by omega
 have hl3:(n:Int)<=9223372036854775807:=by omega
 clear hbad cn cl hcm hql;obtain⟨s1,hs1⟩:=af (s.tick t)
 have HC1:Hid (s1.C=s.C):=zh (by rw[hs1];rfl);have HNOW:Hid (s1.now=max s.now t):=zh (by rw[hs1];rfl);rw[<-hs1]at HTK HQL ⊢;clear hs1;go_upto_region 8 with (go_at_call 42;refine(HTK.out).mono ?_;rintro e w1 ⟨rfl,hO⟩;have HO:=zh hO;clear hO)
 obtain⟨W1,R1,hI1,hW1,hR1,hK1⟩:=HO.out;obtain⟨qA,qc,lq,pA,pc,lp,ub,cb,hT1⟩:=hI1;have T1:=zh hT1;have HW1:=zh hW1;have HR1:=zh hR1;have HK1:=zh hK1;have A1:=zh (HA.out.keep hK1 hW1);have c35:w1.cell? ⟨g,35,none⟩=some (.bool false):=(hT1.cC (j:=35) (by decide)).trans (by rw[show s1.C.cell 35=.bool s1.C.cm from rfl,HC1.out,HCM.out]);clear hT1 hW1 hR1 hK1;go_upto_region 12 with (fail)
 have hgl:=T1.out.blk.lt;obtain⟨w0,hw0⟩:=af w1.drew
 have hb0:Below w1.heap.size w1 w0:=by rw[hw0];exact(Below.refl _ _).drew
 have T0:bN w0 g s1 W1 R1 qA qc lq pA pc lp ub cb:=T1.out.below hb0;have A0:=A1.out.keep (aa.of_below (F:=W1) hb0) (fun k hk=>.inl hk);obtain⟨iw,hiw,hiwz,hiws,hiwb⟩:=jV;have cnow:=T0.cnow;obtain⟨mx,hmx⟩:=af s1.now
 have HMX:=zh hmx;rw[<-hmx]at cnow;refine wp_region_held_drew (S:=fun w'=>aa (fun j=>j=g\/∃a,qA=some a/\j=a.block) w1 w'/\w'.cell? ⟨g,40,none⟩=some (.int .i64 mx)) (by kernel_rfl) ⟨(aa.refl (w:=w1)).drew,by rw[<-hw0];exact cnow⟩ (fun hHeld=>?_);rw[<-hw0];rw[<-hw0]at hHeld;clear hw0 cnow hmx c35;obtain⟨ql,hql⟩:=af lq.length
 have HPL:=zh hql;have HQ6:Hid (ql<=1000000):=zh (by rw[hql];have hq:=congrArg List.length T0.qv;have:=HQL.out;rw[List.length_map]at hq;omega);clear hql;refine dF (i:=0) (x:=some 33) (v:=.pointer (some ⟨g,0,none⟩)) rfl ?_;refine dF (i:=1) (x:=some 34) (v:=.pointer (some ⟨g,0,none⟩)) rfl ?_;refine bF (i:=2) (x:=some 35) (v:=.pointer (some ⟨g,0,none⟩)) rfl ?_;refine bF (i:=3) (x:=some 36) (v:=.pointer (some ⟨g,42,none⟩)) rfl ?_;refine dF (i:=5) (x:=some 38) (v:=.slice A n c) rfl ?_;refine dF (i:=7) (x:=some 40) (v:=.pointer (some ⟨g,0,none⟩)) rfl ?_;refine bF (i:=8) (x:=some 41) (v:=.pointer (some ⟨g,0,none⟩)) rfl ?_;refine bF (i:=9) (x:=some 42) (v:=.pointer (some ⟨g,40,none⟩)) rfl ?_;refine ed (i:=10) (x:=some 43) (v:=.int .i64 mx) rfl (.inl ⟨by rfl,fun W hW=>(by have:=hW.2;go_simp)⟩) ?_;refine wpAnyH_ready (rs:=[4,6]) (by kernel_rfl) (by simp) ?_;refine AllReadyH.cons (o:=⟨some 37,_,_,_,_,_⟩) rfl (fun K hK=>?_) (AllReadyH.cons (o:=⟨some 39,_,_,_,_,_⟩) rfl (fun K hK=>?_) AllReadyH.nil)
 focus
  skip;rw[if_pos (by rfl)];have h43:=T0.cq;rw[<-HPL.out]at h43;go_simp;refine hK.out _ _ hHeld (fun hHeld=>?_);clear hK K h43
  try simp only[Act.put,qa,qb,qc]
  refine bc (i:=6) (x:=some 39) rfl fun K hK=>?_;go_simp;refine(bw A n c z w0 (by omega) A0.row).mono ?_;rintro e w1' ⟨A2,c2',rfl,hc2,hR2,hF2,hbk⟩;dsimp only;have hFl:∀a,A2=some a->w0.heap.size<=a.block:=hF2;have hFr:∀a,A2=some a->a.block < w1'.heap.size:=fun a e=>db hR2 HNP.out.1 e;have hwl1:∀j,W1 j->j < w0.heap.size:=T0.win;have U1:=T0.below hbk;have hb1:Below w1.heap.size w1 w1':=hb0.trans (hbk.mono hb0.size);have hW2:∀j,W1 j->∀a,A2=some a->j ≠ a.block:=fun j hj a e=>by have:=hFl a e;have:=hwl1 j hj;omega
  refine hK.out _ _ ⟨hHeld.1.more hbk,(hbk.cell (p:=⟨g,40,none⟩) T0.blk.lt).trans hHeld.2⟩ (fun hHeld=>?_);clear hK K hbk hF2
  try simp only[Act.put,qa,qb,qc]
  refine bF (i:=11) (x:=some 44) (v:=.agg #[.slice A2 n c2',.int .i64 mx]) rfl ?_;refine bc (i:=12) (x:=some 45) rfl fun K hK=>?_;go_simp;obtain⟨w2',hv⟩:∃X,X=w1'.alloc (.cells #[.slice A2 n c2',.int .i64 mx] 96):=⟨_,rfl⟩
  obtain⟨nb,hnb⟩:=af w1'.heap.size
  have hbk:Below w1'.heap.size w1' w2':=by rw[hv];exact bM _
  have hNB:ae w2' nb 96 #[.slice A2 n c2',.int .i64 mx]:=by rw[hv,hnb];exact ae.new _ _ _
  have T2:=U1.below hbk;have hb2:Below w1.heap.size w1 w2':=hb1.trans (hbk.mono hb1.size);replace hR2:=hR2.next hbk;replace hFr:∀a,A2=some a->a.block < w2'.heap.size:=fun a e=>bg (hFr a e) hbk.size;rw[<-hv,<-hnb];refine hK.out _ _ ⟨hHeld.1.more hbk,(hbk.cell (p:=⟨g,40,none⟩) U1.blk.lt).trans hHeld.2⟩ (fun hHeld=>?_);clear hK K hbk hv hnb
 rotate_left
 focus
  skip;rw[if_pos (by rfl)];go_simp;refine(bw A n c z w0 (by omega) A0.row).mono ?_;rintro e w1' ⟨A2,c2',rfl,hc2,hR2,hF2,hbk⟩;dsimp only;have hFl:∀a,A2=some a->w0.heap.size<=a.block:=hF2;have hFr:∀a,A2=some a->a.block < w1'.heap.size:=fun a e=>db hR2 HNP.out.1 e;have hwl1:∀j,W1 j->j < w0.heap.size:=T0.win;have U1:=T0.below hbk;have hb1:Below w1.heap.size w1 w1':=hb0.trans (hbk.mono hb0.size);have hW2:∀j,W1 j->∀a,A2=some a->j ≠ a.block:=fun j hj a e=>by have:=hFl a e;have:=hwl1 j hj;omega
  refine hK.out _ _ ⟨hHeld.1.more hbk,(hbk.cell (p:=⟨g,40,none⟩) T0.blk.lt).trans hHeld.2⟩ (fun hHeld=>?_);clear hK K hbk hF2
  try simp only[Act.put,qa,qb,qc]
  refine bF (i:=11) (x:=some 44) (v:=.agg #[.slice A2 n c2',.int .i64 mx]) rfl ?_;refine wpAnyH_ready (rs:=[4,12]) (by kernel_rfl) (by simp) ?_;refine AllReadyH.cons (o:=⟨some 37,_,_,_,_,_⟩) rfl (fun K hK=>?_) (AllReadyH.cons (o:=⟨some 45,_,_,_,_,_⟩) rfl (fun K hK=>?_) AllReadyH.nil)
  focus
   skip;rw[if_pos (by rfl)];have h43:=U1.cq;rw[<-HPL.out]at h43;go_simp;refine hK.out _ _ hHeld (fun hHeld=>?_);clear hK K h43
   try simp only[Act.put,qa,qb,qc]
   refine bc (i:=12) (x:=some 45) rfl fun K hK=>?_;go_simp;obtain⟨w2',hv⟩:∃X,X=w1'.alloc (.cells #[.slice A2 n c2',.int .i64 mx] 96):=⟨_,rfl⟩
   obtain⟨nb,hnb⟩:=af w1'.heap.size
   have hbk:Below w1'.heap.size w1' w2':=by rw[hv];exact bM _
   have hNB:ae w2' nb 96 #[.slice A2 n c2',.int .i64 mx]:=by rw[hv,hnb];exact ae.new _ _ _
   have T2:=U1.below hbk;have hb2:Below w1.heap.size w1 w2':=hb1.trans (hbk.mono hb1.size);replace hR2:=hR2.next hbk;replace hFr:∀a,A2=some a->a.block < w2'.heap.size:=fun a e=>bg (hFr a e) hbk.size;rw[<-hv,<-hnb];refine hK.out _ _ ⟨hHeld.1.more hbk,(hbk.cell (p:=⟨g,40,none⟩) U1.blk.lt).trans hHeld.2⟩ (fun hHeld=>?_);clear hK K hbk hv hnb
  rotate_left
  focus
   skip;rw[if_pos (by rfl)];go_simp;obtain⟨w2',hv⟩:∃X,X=w1'.alloc (.cells #[.slice A2 n c2',.int .i64 mx] 96):=⟨_,rfl⟩
   obtain⟨nb,hnb⟩:=af w1'.heap.size
   have hbk:Below w1'.heap.size w1' w2':=by rw[hv];exact bM _
   have hNB:ae w2' nb 96 #[.slice A2 n c2',.int .i64 mx]:=by rw[hv,hnb];exact ae.new _ _ _
   have T2:=U1.below hbk;have hb2:Below w1.heap.size w1 w2':=hb1.trans (hbk.mono hb1.size);replace hR2:=hR2.next hbk;replace hFr:∀a,A2=some a->a.block < w2'.heap.size:=fun a e=>bg (hFr a e) hbk.size;rw[<-hv,<-hnb];refine hK.out _ _ ⟨hHeld.1.more hbk,(hbk.cell (p:=⟨g,40,none⟩) U1.blk.lt).trans hHeld.2⟩ (fun hHeld=>?_);clear hK K hbk hv hnb
   try simp only[Act.put,qa,qb,qc]
   refine bc (i:=4) (x:=some 37) rfl fun K hK=>?_;have h43:=T2.cq;rw[<-HPL.out]at h43;go_simp;refine hK.out _ _ hHeld (fun hHeld=>?_);clear hK K h43
 all_goals
  try simp only[Act.put,qa,qb,qc]
  refine bc (i:=13) (x:=some 46) rfl fun K hK=>?_;have hSL:=T2.q;rw[<-HPL.out]at hSL;refine bB _ _ _ _ rfl w2' 96 iw (.agg #[.slice none 0 0,.int .i64 0]) 2 32 Tryz.underlying88 hiw hiwz hiws hiwb rfl qA ql qc (lq.flatMap WE.cells) rfl hSL _ rfl 1 [.slice A2 n c2',.int .i64 mx] (Src.ofSlice _ Tryz.underlying88 ⟨nb,0,none⟩ 1 1 _ rfl (fun j u hu=>by
    have hj:j < 2:=(List.getElem?_eq_some_iff.1 hu).1;rw[Addr.add_lit,Nat.zero_add,hNB.cell j];simpa using hu) (by simp[Value.oneCell'])) (by decide) (by unfold maxLen;have:=HQ6.out;omega) (by have:=HQ6.out;omega) ?_
  intro A9 c9 wA hSL9 hK9 hA9;dsimp only;have hA9n:∀a,A9=some a->(∃a',qA=some a'/\a.block=a'.block)\/w2'.heap.size<=a.block:=hA9;refine hK.out _ _ ⟨hHeld.1.trans hK9 (fun j _ hj=>.inr hj),(hK9.cell (p:=⟨g,40,none⟩) T2.blk.lt (fun⟨a,ha,e⟩=>T2.gq a ha e)).trans hHeld.2⟩ (fun hHeld=>?_);clear hK K
  try simp only[Act.put,qa,qb,qc]
  refine bF (i:=14) (x:=some 47) (v:=.pointer (some ⟨g,0,none⟩)) rfl ?_;refine bF (i:=15) (x:=some 48) (v:=.pointer (some ⟨g,42,none⟩)) rfl ?_;refine bc (i:=16) (x:=none) rfl fun K hK=>?_;have hg9:ae wA g 91 _:=hK9.blk T2.blk (fun⟨a,ha,e⟩=>T2.gq a ha e);have hc43:wA.cell? ⟨g,42,none⟩=some (.slice qA lq.length qc):=(hg9.cell 42).trans (bv s1.C.arr_size 3);have hf43:=hg9.frozen 42;have T9:=T2.moreR (R':=fun j=>R1 j\/∃a,A2=some a/\j=a.block) (fun j hj=>.inl hj) (fun j hw hr=>by rcases hr with hr | ⟨a,ha,e⟩;exact T2.dis j hw hr;exact hW2 j hw a ha e) (fun j hr=>by rcases hr with hr | ⟨a,ha,e⟩;exact T2.rin j hr;(rw[e];exact hFr a ha));have hpk9:∀e:WE,e∈lq++[(⟨⟨n,z,mx⟩,A2,c2'⟩:WE)]->ci wA (fun j=>R1 j\/∃a,A2=some a/\j=a.block) e.A e.v.n e.c e.v.z:=fun e he=>by
   have hx:ci w2' (fun j=>R1 j\/∃a,A2=some a/\j=a.block) e.A e.v.n e.c e.v.z:=by
    rcases List.mem_append.1 he with he | he
    ·exact T9.qe e he
    ·have:e=(⟨⟨n,z,mx⟩,A2,c2'⟩:WE):=by simpa using he
     rw[this]
     exact ci.of_clone HNP.out.1 HNP.out.2 hc2 A0.byte hR2
   exact hx.keep hK9 (fun j ⟨a,ha,e2⟩ hr=>T9.dis j (by rw[e2];exact T9.wq a ha) hr)
  have hlen9:(lq++[(⟨⟨n,z,mx⟩,A2,c2'⟩:WE)]).length=ql+1:=by rw[List.length_append,HPL.out];rfl
  have hSL9':SL wA 96 2 A9 (lq++[(⟨⟨n,z,mx⟩,A2,c2'⟩:WE)]).length c9 ((lq++[(⟨⟨n,z,mx⟩,A2,c2'⟩:WE)]).flatMap WE.cells):=by
   rw[hlen9,List.flatMap_append]
   exact hSL9
  have TF:=T9.setQ hK9 hA9n hSL9' hpk9;rw[hlen9,List.map_append,T2.qv]at TF;have HTF:=zh TF;have hS9:aa (fun j=>j=g\/∃a,qA=some a/\j=a.block) w1 (wA.setCell ⟨g,42,none⟩ (.slice A9 (ql+1) c9)):=hHeld.1.setCell (p:=⟨g,42,none⟩) (.inl rfl) _;have hS40:(wA.setCell ⟨g,42,none⟩ (.slice A9 (ql+1) c9)).cell? ⟨g,40,none⟩=some (.int .i64 mx):=by rw[HTF.out.cnow,HMX.out]
  have HKF:=zh (hS9.mono (G:=W1) (fun k h=>by rcases h with h | ⟨a,ha,e⟩;rw[h];exact T2.wg;rw[e];exact T2.wq a ha));have HWF:=zh (show ∀k,(W1 k\/∃a,A9=some a/\k=a.block)->W1 k\/w1.heap.size<=k from fun k hk=>by
   rcases hk with hk | ⟨a,ha,e⟩
   ·exact .inl hk
   ·rcases hA9n a ha with ⟨a',ha',e'⟩ | hge
    ·exact .inl (by rw[e,e'];exact T2.wq a' ha')
    ·exact .inr (by have:=hb2.size;omega))
  have HRF:=zh (show ∀k,(R1 k\/∃a,A2=some a/\k=a.block)->R1 k\/w1.heap.size<=k from fun k hk=>by
   rcases hk with hk | ⟨a,ha,e⟩
   ·exact .inl hk
   ·exact .inr (by have:=hFl a ha;have:=hb0.size;omega))
  clear TF hSL9 hSL9' hpk9 hK9 hA9 hA9n T9 hg9 hSL;go_simp;refine hK.out _ _ ⟨hS9,hS40⟩ (fun hHeld=>?_);clear hK K hS9 hS40
  try simp only[Act.put]
  refine wpAnyH_done (by kernel_rfl) ?_ _;go_wp2;go_ret;refine⟨rfl,jy.comp HW1.out HR1.out HK1.out ⟨_,_,⟨A9,c9,lq++[(⟨⟨n,z,mx⟩,A2,c2'⟩:WE)],pA,pc,lp,ub,cb,?_⟩,HWF.out,HRF.out,HKF.out⟩⟩
  ·exact(by
    have hh:=HTF.out;rw[show max s.now t=mx from by rw[HMX.out,HNOW.out]]
    exact hh)
def fY (cf:aZ) (ct n:Nat) (z:Nat->Int) (w:World) (e:Ending) (w':World):Prop:=
 ∃A c,e=.returned (.tuple #[.slice A (cy cf n) c,.int .i64 0])/\cy cf n<=c/\(∀a,A=some a->w.heap.size<=a.block/\∃cur t,w'.heap[a.block]? = some (.cells cur t (0,0)))/\au w' w'.heap.size A (cy cf n) (fun j=>.int .u8 ((gL cf ct n (nf z) j:Nat):Int))/\Below w.heap.size w w'
theorem aZ.Ok.keyN {C:aZ} (hok:C.Ok):br (nf C.key):=fun j hj=>fK hok.key hj
theorem lD {cf:aZ} {ct n:Nat} {z:Nat->Nat} (h:cf.ig=false) {j:Nat} (hj:j < n):jK (nf cf.key) ct cf.b.toNat cf.d.toNat (fz cf ct n z) j=jK (nf cf.key) ct cf.b.toNat cf.d.toNat z j:=by
 unfold jK fz cD;rw[if_pos hj]
theorem i5 {w:World} {A:Option Addr} {n c:Nat} {xs:List Value} {v:Nat->Value} (h:SL w 5 1 A n c xs) (hx:∀j,j < n->xs[j]? = some (v j)):au w w.heap.size A n v:=fun hn=>by
 obtain⟨b,o,hA,hb⟩:=h.some_ hn
 exact⟨b,o,hA,hb,fun j hj=>(h.cell hA (by omega)).trans (hx j hj)⟩
theorem mt (g:Nat) (s:TS) (W R:Nat->Prop) (w:World) (h:dK w g s W R) (hok:s.C.Ok) (hv:s.C.Valid) (hig:s.C.ig=false) (hcm:s.C.cm=false) (ct:Nat) (hct:ct < 4294967296) (A:Option Addr) (n c:Nat) (z:Nat->Int) (hp1:1<=n) (hp9:n<=9000) (hr:au w w.heap.size A n (fun j=>.int .u8 (z j))) (hz:∀j,j < n->0<=z j/\z j < 256) :
  Calls Tryz.prog 46 #[.pointer (some ⟨g,0,none⟩),.int .u32 ct,.slice A n c] w (fY s.C ct n z w):=by
 obtain⟨qA,qc,lq,pA,pc,lp,ub,cb,hT⟩:=h;have HT:=zh hT;have HR:=zh hr;have HZ:=zh hz;have c35:w.cell? ⟨g,35,none⟩=some (.bool false):=(hT.cC (j:=35) (by decide)).trans (by rw[show s.C.cell 35=.bool s.C.cm from rfl,hcm]);have c0:(0:Int)<=(ct:Int):=by omega
 have c1:(ct:Int) < 4294967296:=by omega
 have HIG:=zh hig;have HKL:=zh hok.keyN;obtain⟨B,hB⟩:∃B:Nat,B=s.C.b.toNat:=⟨_,rfl⟩
 obtain⟨D,hD⟩:∃D:Nat,D=s.C.d.toNat:=⟨_,rfl⟩
 have HB:=zh hB;have HD:=zh hD;have HBI:Hid (s.C.b=(B:Int)):=zh (by rw[hB];have:=hv.1;omega);have HDI:Hid (s.C.d=(D:Int)):=zh (by rw[hD];have:=hv.2.2.1;omega);have HBL:Hid (B < 32):=zh (by rw[hB];have:=hv.2.1;omega);have HDL:Hid (D < 2):=zh (by rw[hD];have:=hv.2.2.1;omega);have HCT:=zh hct;have HP:Hid (1<=n/\n<=9000):=zh ⟨hp1,hp9⟩;have HNF:=zh (show(fun j=>Value.int .u8 (((nf z j:Nat)):Int))=(fun j=>Value.int .u8 ((nf z j:Nat):Int))from rfl);clear hT hr hz hig hB hD hv hct hp1 hp9 hcm HNF;go_enter Tryz.func46,Tryz.ntmps46;go_upto_region 8 with (fail)
 obtain⟨hb,hhb⟩:=af w.heap.size
 have HHB:=zh hhb;refine ag (fun V=>ae V hb 5 #[.int .u8 (128+(ct:Int) / 256 % 16),.int .u8 ((ct:Int) % 256)]/\Below w.heap.size w V) ⟨by rw[hhb];exact ae.new _ _ _,(Below.refl _ w).alloc ao _⟩ ?_;rintro V ⟨b1,b2⟩;have B1:=zh b1;have B2:=zh b2;have HCL:=zh (bw A n c z V (by have:=HP.out;omega) (HR.out.next b2));rw[<-hhb];clear b1 b2 hhb c35;go_upto_region 9 with (go_at_call 39;refine(HCL.out).mono ?_;rintro e V2 ⟨A2,c2,rfl,hc2,hR2,hF2,hbk⟩;have HR2:=zh hR2;have HF2:=zh hF2;have HBK:=zh hbk;clear hc2 hR2 hF2 hbk)
 have T2:=zh (HT.out.below (B2.out.trans (HBK.out.mono B2.out.size)));have c34:V2.cell? ⟨g,34,none⟩=some (.bool false):=(T2.out.cC (j:=34) (by decide)).trans (by rw[show s.C.cell 34=.bool s.C.ig from rfl,HIG.out]);go_upto_region 14 with (fail)
 have HBW:=zh (B2.out.trans (HBK.out.mono B2.out.size));have HBH:=zh (B1.out.below HBK.out B1.out.lt);obtain⟨w0,hw0⟩:=af V2.drew
 have hb0:Below V2.heap.size V2 w0:=by rw[hw0];exact(Below.refl _ _).drew
 have HKR:=zh (show ∀W',Below V2.heap.size V2 W'->W'.rangeAt g 2 (ar (nf s.C.key)).toList from fun W' hW j v hv=>by
  have hj:j < 16:=by have:=(List.getElem?_eq_some_iff.1 hv).1;rw[Array.length_toList,ah]at this;exact this
  rw[(T2.out.below hW).cC (j:=2+j) (by omega),<-hv,Array.getElem?_toList,aR _ hj];unfold aZ.cell;rw[if_neg (by omega),if_neg (by omega),if_pos (by omega),show 2+j-2=j by omega,cv hok.key hj])
 have HC0:=zh (show ∀W',Below V2.heap.size V2 W'->W'.cell? ⟨g,0,none⟩=some (.int .i64 (B:Int))from fun W' hW=>((T2.out.below hW).cC (j:=0) (by decide)).trans (by rw[show s.C.cell 0=.int .i64 s.C.b from rfl,HBI.out]));have HC1:=zh (show ∀W',Below V2.heap.size V2 W'->W'.cell? ⟨g,1,none⟩=some (.int .i64 (D:Int))from fun W' hW=>((T2.out.below hW).cC (j:=1) (by decide)).trans (by rw[show s.C.cell 1=.int .i64 s.C.d from rfl,HDI.out]));have HS16:Hid ((Tryz.prog.info? 23).map (·.size)=some (ar (nf s.C.key)).toList.length):=zh (by rw[Array.length_toList,ah];kernel_rfl);have HUK:=zh Tryz.underlying23;have HCR:=zh (ir (nf s.C.key) ct B D HKL.out HCT.out HBL.out HDL.out A2 n c2 (nf z) HP.out.1 (by have:=HP.out;omega) (fun j hj=>fK HZ.out hj) w0 (au.congr (HR2.out.next hb0) (fun j hj=>by rw[cv HZ.out hj])));obtain⟨KB,hKB⟩:∃q,q=ar (nf s.C.key):=⟨_,rfl⟩
 rw[<-hKB]at HKR HS16 HCR;clear hKB;refine wp_region_held_drew (S:=fun w'=>Below V2.heap.size V2 w') (by kernel_rfl) ((Below.refl _ V2).drew) (fun hHeld=>?_);rw[<-hw0];rw[<-hw0]at hHeld;clear hw0 c34;refine(cr (i:=0) (oi:=⟨some 93,_,_,_,_,_⟩) (v:=.pointer (some ⟨g,0,none⟩)) rfl (Or.inl ⟨by rfl,fun W hW=>(by rfl)⟩) (by assumption) ?_)
 try simp only[Act.put,List.setIfInBounds_toArray,List.set_cons_succ,List.set_cons_zero]
 refine(cr (i:=1) (oi:=⟨some 94,_,_,_,_,_⟩) (v:=.pointer (some ⟨g,0,none⟩)) rfl (Or.inl ⟨by rfl,fun W hW=>(by go_simp)⟩) (by assumption) ?_)
 try simp only[Act.put,List.setIfInBounds_toArray,List.set_cons_succ,List.set_cons_zero]
 refine(cr (i:=2) (oi:=⟨some 95,_,_,_,_,_⟩) (v:=.pointer (some ⟨g,0,none⟩)) rfl (Or.inl ⟨by rfl,fun W hW=>(by go_simp)⟩) (by assumption) ?_)
 try simp only[Act.put,List.setIfInBounds_toArray,List.set_cons_succ,List.set_cons_zero]
 refine(cr (i:=3) (oi:=⟨some 96,_,_,_,_,_⟩) (v:=.pointer (some ⟨g,2,none⟩)) rfl (Or.inl ⟨by rfl,fun W hW=>(by go_simp)⟩) (by assumption) ?_)
 try simp only[Act.put,List.setIfInBounds_toArray,List.set_cons_succ,List.set_cons_zero]
 refine'(cr (i:=4) (oi:=⟨some 97,_,_,_,_,_⟩) (v:=_) rfl (yieldsIf_load_mid (by rfl) _ _ rfl g 2 rfl KB.toList _ (fun w h=>HKR.out w h) HUK.out rfl HS16.out) (by assumption) ?_)
 try simp only[Act.put,List.setIfInBounds_toArray,List.set_cons_succ,List.set_cons_zero]
 refine(cr (i:=5) (oi:=⟨some 98,_,_,_,_,_⟩) (v:=.int .u32 ct) rfl (Or.inl ⟨by rfl,fun W hW=>(by rfl)⟩) (by assumption) ?_)
 try simp only[Act.put,List.setIfInBounds_toArray,List.set_cons_succ,List.set_cons_zero]
 refine(cr (i:=6) (oi:=⟨some 99,_,_,_,_,_⟩) (v:=.pointer (some ⟨g,0,none⟩)) rfl (Or.inl ⟨by rfl,fun W hW=>(by rfl)⟩) (by assumption) ?_)
 try simp only[Act.put,List.setIfInBounds_toArray,List.set_cons_succ,List.set_cons_zero]
 refine(cr (i:=7) (oi:=⟨some 100,_,_,_,_,_⟩) (v:=.pointer (some ⟨g,0,none⟩)) rfl (Or.inl ⟨by rfl,fun W hW=>(by go_simp)⟩) (by assumption) ?_)
 try simp only[Act.put,List.setIfInBounds_toArray,List.set_cons_succ,List.set_cons_zero]
 refine(cr (i:=8) (oi:=⟨some 101,_,_,_,_,_⟩) (v:=.pointer (some ⟨g,0,none⟩)) rfl (Or.inl ⟨by rfl,fun W hW=>(by go_simp)⟩) (by assumption) ?_)
 try simp only[Act.put,List.setIfInBounds_toArray,List.set_cons_succ,List.set_cons_zero]
 refine(cr (i:=9) (oi:=⟨some 102,_,_,_,_,_⟩) (v:=.pointer (some ⟨g,0,none⟩)) rfl (Or.inl ⟨by rfl,fun W hW=>(by go_simp)⟩) (by assumption) ?_)
 try simp only[Act.put,List.setIfInBounds_toArray,List.set_cons_succ,List.set_cons_zero]
 refine(cr (i:=10) (oi:=⟨some 103,_,_,_,_,_⟩) (v:=.int .i64 (B:Int)) rfl (Or.inl ⟨by rfl,fun W hW=>(by have:=HC0.out W hW;go_simp)⟩) (by assumption) ?_)
 try simp only[Act.put,List.setIfInBounds_toArray,List.set_cons_succ,List.set_cons_zero]
 refine(cr (i:=11) (oi:=⟨some 104,_,_,_,_,_⟩) (v:=.pointer (some ⟨g,0,none⟩)) rfl (Or.inl ⟨by rfl,fun W hW=>(by rfl)⟩) (by assumption) ?_)
 try simp only[Act.put,List.setIfInBounds_toArray,List.set_cons_succ,List.set_cons_zero]
 refine(cr (i:=12) (oi:=⟨some 105,_,_,_,_,_⟩) (v:=.pointer (some ⟨g,0,none⟩)) rfl (Or.inl ⟨by rfl,fun W hW=>(by go_simp)⟩) (by assumption) ?_)
 try simp only[Act.put,List.setIfInBounds_toArray,List.set_cons_succ,List.set_cons_zero]
 refine(cr (i:=13) (oi:=⟨some 106,_,_,_,_,_⟩) (v:=.pointer (some ⟨g,0,none⟩)) rfl (Or.inl ⟨by rfl,fun W hW=>(by go_simp)⟩) (by assumption) ?_)
 try simp only[Act.put,List.setIfInBounds_toArray,List.set_cons_succ,List.set_cons_zero]
 refine(cr (i:=14) (oi:=⟨some 107,_,_,_,_,_⟩) (v:=.pointer (some ⟨g,1,none⟩)) rfl (Or.inl ⟨by rfl,fun W hW=>(by go_simp)⟩) (by assumption) ?_)
 try simp only[Act.put,List.setIfInBounds_toArray,List.set_cons_succ,List.set_cons_zero]
 refine(cr (i:=15) (oi:=⟨some 108,_,_,_,_,_⟩) (v:=.int .i64 (D:Int)) rfl (Or.inl ⟨by rfl,fun W hW=>(by have:=HC1.out W hW;go_simp)⟩) (by assumption) ?_)
 try simp only[Act.put,List.setIfInBounds_toArray,List.set_cons_succ,List.set_cons_zero]
 refine(cr (i:=16) (oi:=⟨some 109,_,_,_,_,_⟩) (v:=.slice A2 n c2) rfl (Or.inl ⟨by rfl,fun W hW=>(by rfl)⟩) (by assumption) ?_)
 try simp only[Act.put,List.setIfInBounds_toArray,List.set_cons_succ,List.set_cons_zero]
 refine bc (i:=17) (x:=some 110) rfl fun K hK=>?_;go_simp;refine(HCR.out).mono ?_;rintro e w3 ⟨A3,c3,rfl,hc3,hF3,hR3,hB3⟩;dsimp only;have HR3:=zh hR3;have HB3:=zh hB3;have H3:Below V2.heap.size V2 w3:=hHeld.trans (hB3.mono hb0.size);refine hK.out _ _ H3 (fun hHeld=>?_);clear hK K hR3 hF3 hc3 hB3
 try simp only[Act.put,List.setIfInBounds_toArray,List.set_cons_succ,List.set_cons_zero]
 refine(cr (i:=18) (oi:=⟨some 92,_,_,_,_,_⟩) (v:=.tuple #[.slice A3 n c3,.int .i64 0]) rfl (Or.inl ⟨by rfl,fun W hW=>(by rfl)⟩) (by assumption) ?_)
 try simp only[Act.put,List.setIfInBounds_toArray,List.set_cons_succ,List.set_cons_zero]
 refine(cr (i:=19) (oi:=⟨some 111,_,_,_,_,_⟩) (v:=.slice A3 n c3) rfl (Or.inl ⟨by rfl,fun W hW=>(by go_simp)⟩) (by assumption) ?_)
 try simp only[Act.put,List.setIfInBounds_toArray,List.set_cons_succ,List.set_cons_zero]
 refine(cr (i:=21) (oi:=⟨some 15,_,_,_,_,_⟩) (v:=.slice A3 n c3) rfl (Or.inl ⟨by rfl,fun W hW=>(by rfl)⟩) (by assumption) ?_)
 try simp only[Act.put,List.setIfInBounds_toArray,List.set_cons_succ,List.set_cons_zero]
 refine(cr (i:=20) (oi:=⟨some 112,_,_,_,_,_⟩) (v:=.int .i64 0) rfl (Or.inl ⟨by rfl,fun W hW=>(by go_simp)⟩) (by assumption) ?_)
 try simp only[Act.put,List.setIfInBounds_toArray,List.set_cons_succ,List.set_cons_zero]
 refine(cr (i:=22) (oi:=⟨some 16,_,_,_,_,_⟩) (v:=.int .i64 0) rfl (Or.inl ⟨by rfl,fun W hW=>(by rfl)⟩) (by assumption) ?_)
 try simp only[Act.put,List.setIfInBounds_toArray,List.set_cons_succ,List.set_cons_zero]
 refine wpAnyH_done (by kernel_rfl) ?_ _;have HH3:=zh H3;clear H3 hHeld;go_upto_region 17 with (fail)
 have HB3:=zh (HBH.out.below HH3.out HBH.out.lt);have HSH:=zh (show SL w3 5 1 (some ⟨hb,0,none⟩) 2 2 [.int .u8 (128+(ct:Int) / 256 % 16),.int .u8 ((ct:Int) % 256)]from ⟨rfl,.inr ⟨hb,0,_,rfl,HB3.out,Nat.le_refl _,by unfold maxLen;omega,by simp,fun j hj=>by rw[Nat.zero_add];simp⟩⟩);obtain⟨lb,lo,hA3,hlb,hlc⟩:=HR3.out HP.out.1;subst hA3;have HLC:=zh hlc;obtain⟨CF,hCF⟩:=af (jK (nf s.C.key) ct B D (nf z))
 have HCF:=zh hCF;rw[<-hCF]at HLC;obtain⟨i0,hi,hz0,hz1,hz2⟩:=info_parts Tryz.infoByte;have HSRC:Hid (Src Tryz.prog 1 44 (.slice (some ⟨lb,lo,none⟩) n c3) n ((List.range n).map fun j=>.int .u8 ((CF j:Nat):Int)) w3):=zh (Src.ofSlice _ Tryz.underlying44 ⟨lb,lo,none⟩ n c3 _ (by simp) (fun j u hu=>by
   have hj:j < n:=by have:=(List.getElem?_eq_some_iff.1 hu).1;simpa using this
   rw[Addr.add_lit,HLC.out j hj,<-hu];simp[hj]) (fun u hu=>by
    obtain⟨j,_,rfl⟩:=List.mem_map.1 hu
    rfl))
 clear hlc hCF;go_wp2_with (refine aY rfl _ _ _ _ rfl w3 5 i0 (.int .u8 0) 1 1 Tryz.underlying44 hi hz0 hz1 hz2 rfl (some ⟨hb,0,none⟩) 2 2 _ rfl HSH.out _ rfl n ((List.range n).map fun j=>.int .u8 ((CF j:Nat):Int)) HSRC.out HP.out.1 (by have:=HP.out;unfold maxLen;omega) (by have:=HP.out;omega) ?_;intro A9 c9 wA hSL9 hK9 hA9;have HSL9:=zh hSL9;have HK9:=zh hK9;have HA9:=zh hA9;clear hSL9 hK9 hA9);go_ret2;have hw3:w.heap.size<=w3.heap.size:=ba HBW.out.size HH3.out.size;have hpn:cy s.C n=2+n:=by unfold cy kr;rw[HIG.out];rfl
 refine⟨A9,c9,by rw[hpn];rfl,by rw[hpn];exact HSL9.out.le,fun a e=>⟨?_,by obtain⟨cur,h⟩:=HSL9.out.obj e;exact⟨cur,_,h⟩⟩,?_,aa.below (HBW.out.trans (HH3.out.mono HBW.out.size)) HK9.out (fun k ⟨a,ha,e⟩=>by cases ha;rw[e];exact Nat.le_of_eq HHB.out.symm) hw3⟩
 ·rcases HA9.out a e with ⟨a',ha',e'⟩ | hge
  ·cases ha'
   rw[e',HHB.out]
   exact Nat.le_refl _
  ·omega
 ·rw[hpn];refine(i5 HSL9.out (fun j hj=>?_)).more ao;unfold gL cD;by_cases hj2:j < 2
  ·rw[if_pos hj2,List.getElem?_append_left (by simpa using hj2)];rcases (by omega:j=0\/j=1)with rfl | rfl
   ·simp[iS]
   ·simp[iS]
  ·rw[if_neg hj2,List.getElem?_append_right (by simp;omega)];have hjn:j-2 < n:=by omega
   rw[lD HIG.out hjn,<-HB.out,<-HD.out,<-HCF.out];simp[hjn]
theorem jf:∀{l:List PV} {i:Nat} {p:PV},l[i]? = some p->p.rep=true->(∀j,j < i->∀e,l[j]? = some e->e.rep=false)->bo l=some (i,p)
 | [],i,p,h,_,_=>by simp at h
 | q :: r,0,p,h,hp,_=>by
  have:q=p:=by simpa using h
  subst this;unfold bo;rw[if_pos hp]
 | q :: r,i+1,p,h,hp,hno=>by
  have hq:=hno 0 (by omega) q rfl;unfold bo;rw[if_neg (by rw[hq];decide),jf (l:=r) (i:=i) (p:=p) (by simpa using h) hp (fun j hj e he=>hno (j+1) (by omega) e (by simpa using he))]
  rfl
theorem je:∀{l:List PV},(∀e,e∈l->e.rep=false)->bo l=none
 | [],_=>rfl
 | q :: r,h=>by
  unfold bo;rw[if_neg (by rw[h q List.mem_cons_self];decide),je (fun e he=>h e (List.mem_cons_of_mem _ he))]
  rfl
def et (lp:List PE) (k:Nat):Bool:=match lp[k]? with | some e=>e.v.rep | none=>false
theorem eU (lp:List PE):(∃(i:Nat) (e:PE),lp[i]? = some e/\aL (et lp) 0 lp.length=(i:Int)/\bo (lp.map (·.v))=some (i,e.v))\/(aL (et lp) 0 lp.length = -1/\bo (lp.map (·.v))=none):=by
 rcases iD (et lp) lp.length with ⟨i,hi,hf,hp,hno⟩ | ⟨hf,hno⟩
 ·refine .inl ⟨i,lp[i],List.getElem?_eq_getElem hi,hf,jf (by rw[List.getElem?_map,List.getElem?_eq_getElem hi];rfl) ?_ (fun j hj e he=>?_)⟩
  ·unfold et at hp;rw[List.getElem?_eq_getElem hi]at hp
   exact hp
  ·have h1:=hno j hj;have hjl:j < lp.length:=by omega
   unfold et at h1;rw[List.getElem?_eq_getElem hjl]at h1;rw[List.getElem?_map,List.getElem?_eq_getElem hjl]at he;have:lp[j].v=e:=by simpa using he
   rw[<-this]
   exact h1
 ·refine .inr ⟨hf,je (fun e he=>?_)⟩;obtain⟨x,hx,rfl⟩:=List.mem_map.1 he;obtain⟨j,hj,rfl⟩:=List.mem_iff_getElem.1 hx;have h1:=hno j hj;unfold et at h1;rw[List.getElem?_eq_getElem hj]at h1
  exact h1
theorem we (y:Int) (A:Option Addr) (n c:Nat) (r:Bool) (w:World):Calls Tryz.prog 45 #[.agg #[.int .u32 y,.slice A n c,.bool r]] w fun e w'=>e=.returned (.bool r)/\Below w.heap.size w w':=by
 go_enter Tryz.func45,Tryz.ntmps45;go_wp2;go_ret
 exact⟨rfl,bM _⟩
theorem eR (A:Option Addr) (n c:Nat) (lp:List PE) (hn:n=lp.length) (w:World) (h:SL w 94 3 A n c (lp.flatMap PE.cells)) :
  Calls Tryz.prog 44 #[.slice A n c,.func (.func 45) #[] #[]] w fun e w'=>e=.returned (.int .i64 (aL (et lp) 0 n))/\Below w.heap.size w w':=by
 have hcm:=h.cmax;have hle:=h.le;unfold maxLen at hcm;have HSL:=zh h;obtain⟨F,hF⟩:=af (et lp)
 have HF0:=zh hF;have HN:=zh hn;rw[<-hF];clear h hF hn;go_enter Tryz.func44,Tryz.ntmps44;go_wp2;go_loopw [8] (fun v wr=>∃k:Nat,k<=n/\v=.int .i64 k/\aL F 0 n=aL F k (n-k)/\Below w.heap.size w wr) (fun v _=>n-(intOf v).toNat)
 case atStart=>exact⟨0,by omega,rfl,rfl,Below.refl _ _⟩
 case round=>
  obtain⟨k,hk,rfl,hfw,hb⟩:=hrel;have HF:=zh hfw;have HB:=zh hb;clear hfw hb;by_cases hlt2:k < n
  ·obtain⟨e0,he0⟩:∃e0,lp[k]? = some e0:=⟨lp[k]'(by have:=HN.out;omega),by simp[HN.out ▸ hlt2]⟩
   have hS:=HSL.out.next HB.out;obtain⟨b,o,hA,hbl⟩:=hS.some_ (by omega);have c0:=hS.cell hA (j:=k*3+0) (by omega);have c1:=hS.cell hA (j:=k*3+1) (by omega);have c2:=hS.cell hA (j:=k*3+2) (by omega);rw[bp PE.cells 3 PE.len lp k _ e0 he0 (by omega)]at c0 c1 c2;have hFk:F k=e0.v.rep:=by rw[HF0.out];unfold et;rw[he0]
   obtain⟨⟨y,pn,pz,pr⟩,PA,pc⟩:=e0;simp only[PE.cells,List.getElem?_cons_zero,List.getElem?_cons_succ,Nat.add_zero]at c0 c1 c2;dsimp only at hFk;have HC:=zh (we y PA pn pc pr wr);have HST:=zh (fM F k n hlt2);obtain⟨bb,hbb⟩:=af pr
   rw[<-hbb]at HC hFk c2;have HFk:=zh hFk;subst hA;have c1':wr.cell? ⟨b,o+(k*3+1),none⟩=_:=c1;clear hbb hFk hS he0;have k0:(0:Int)<=(k:Int):=by omega
   have k1:(k:Int) < (n:Int):=by omega
   rw[<-Nat.add_assoc]at c1 c2
   cases bb
   ·have HS2:=zh (HST.out.trans (if_neg (by rw[HFk.out];decide)));go_wp2_with (go_at_call 45;refine(HC.out).mono ?_;rintro e w2 ⟨rfl,hB2⟩;have HB2:=zh (HB.out.trans (hB2.mono HB.out.size));clear hB2);go_roundw
    case rel=>exact⟨k+1,by omega,by go_num,by rw[HF.out,HS2.out],HB2.out⟩
    case measure=>simp[intOf];omega
   ·have HS2:=zh (HST.out.trans (if_pos HFk.out));go_wp2_with (go_at_call 45;refine(HC.out).mono ?_;rintro e w2 ⟨rfl,hB2⟩;have HB2:=zh (HB.out.trans (hB2.mono HB.out.size));clear hB2);go_ret
    exact⟨eY (by rw[HF.out,HS2.out]),HB2.out⟩
  ·obtain rfl:k=n:=by omega
   have HF2:=zh (show aL F 0 k = -1 by rw[HF.out,Nat.sub_self];rfl);clear HF;go_wp2;go_ret
   exact⟨eY HF2.out.symm,HB.out⟩
theorem SL.drop {w:World} {e:TypeId} {sz b o n c:Nat} {xs:List Value} (h:SL w e sz (some ⟨b,o,none⟩) n c xs) (k:Nat) (hk:k<=n):SL w e sz (if c=k then some ⟨b,o,none⟩ else some ⟨b,o+k*sz,none⟩) (n-k) (c-k) (xs.drop (k*sz)):=by
 have hm:k*sz<=n*sz:=Nat.mul_le_mul_right _ hk;rcases h.at_ with ⟨h1,_⟩ | ⟨b',o',cur,h1,h2,h3,h4,h5,h6⟩
 ·cases h1
 cases h1
 refine⟨by rw[List.length_drop,h.len,Nat.sub_mul],.inr ?_⟩;have hcm:k*sz<=c*sz:=Nat.mul_le_mul_right _ (by omega);by_cases hc:c=k
 ·rw[if_pos hc];have hnk:n-k=0:=by omega
  have hck:c-k=0:=by omega
  exact⟨b,o,cur,rfl,h2,by omega,by omega,by rw[hck];omega,fun j hj=>by rw[hnk]at hj;omega⟩
 ·rw[if_neg hc];refine⟨b,o+k*sz,cur,rfl,h2,by omega,by omega,by rw[Nat.sub_mul];omega,fun j hj=>?_⟩;rw[Nat.sub_mul]at hj;rw[Nat.add_assoc,h6 _ (by omega),List.getElem?_drop]
theorem p4 (lq:List WE) (k:Nat):(lq.flatMap WE.cells).drop (k*2)=(lq.drop k).flatMap WE.cells:=by
 induction lq generalizing k with
 | nil=>simp
 | cons x r ih=>
  cases k with
  | zero=>simp
  | succ k=>rw[List.flatMap_cons,List.drop_succ_cons,<-ih k,show(k+1)*2=(WE.cells x).length+k*2 from by show _=2+k*2;omega,List.drop_length_add_append]
theorem SL.setOne {w:World} {e:TypeId} {sz b o n c:Nat} {xs:List Value} (h:SL w e sz (some ⟨b,o,none⟩) n c xs) (q:Nat) (hq:q < n*sz) (v:Value):SL (w.setCell ⟨b,o+q,none⟩ v) e sz (some ⟨b,o,none⟩) n c (xs.set q v):=by
 rcases h.at_ with ⟨h1,_⟩ | ⟨b',o',cur,h1,h2,h3,h4,h5,h6⟩
 ·cases h1
 cases h1
 have hcn:n*sz<=c*sz:=Nat.mul_le_mul_right _ h3;refine⟨by rw[List.length_set,h.len],.inr ⟨b,o,_,rfl,(show ae w b e cur from h2).set_ (o+q) v,h3,h4,by simpa using h5,fun j hj=>?_⟩⟩;by_cases hjq:j=q
 ·subst hjq;rw[List.getElem?_set_self (by rw[h.len];exact hj),Array.getElem?_setIfInBounds_self_of_lt (by omega)]
 ·rw[List.getElem?_set_ne (fun e=>hjq e.symm),Array.getElem?_setIfInBounds_ne (by omega),h6 j hj]
theorem vI (lp:List PE) (i:Nat) (e:PE) (h:lp[i]? = some e):(lp.flatMap PE.cells).set (i*3+2) (.bool false)=((lp.set i { e with v:={ e.v with rep:=false } }).flatMap PE.cells):=by
 have hil:i < lp.length:=(List.getElem?_eq_some_iff.1 h).1;apply List.ext_getElem?;intro j;rw[oc PE.cells 3 PE.len lp i hil];by_cases hj:j=i*3+2
 ·subst hj;rw[List.getElem?_set_self (by rw[dP PE.cells 3 PE.len];omega),if_pos ⟨by omega,by omega⟩,show i*3+2-i*3=2 by omega]
  rfl
 ·rw[List.getElem?_set_ne (fun e=>hj e.symm)];by_cases hin:i*3<=j/\j < i*3+3
  ·rw[if_pos hin];obtain⟨d,rfl⟩:∃d,j=i*3+d:=⟨j-i*3,by omega⟩
   rw[bp PE.cells 3 PE.len lp i d e h (by omega),show i*3+d-i*3=d by omega];rcases (by omega:d=0\/d=1)with rfl | rfl<;>rfl
  ·rw[if_neg hin]
def va (W R:Nat->Prop) (w:World) (g:Nat) (r:NX) (e:Ending) (w':World):Prop:=
 ∃A c W' R',e=.returned (.tuple #[.slice A r.n c,.int .u32 r.ct,.int .i64 r.e])/\r.n<=c/\au w' w'.heap.size A r.n (fun j=>.int .u8 ((r.z j:Nat):Int))/\dK w' g r.s W' R'/\(∀k,W' k->W k\/w.heap.size<=k)/\(∀k,R' k->R k\/w.heap.size<=k)/\aa W w w'/\(∀a,A=some a->w.heap.size<=a.block/\¬W' a.block/\¬R' a.block/\∃cur t,w'.heap[a.block]? = some (.cells cur t (0,0)))
theorem mC {W R:Nat->Prop} {w w':World} {g:Nat} {s:TS} (h:jy W R w w' g s) (e:Int):va W R w g ⟨0,zB,0,e,s⟩ (.returned (.tuple #[.slice none 0 0,.int .u32 0,.int .i64 e])) w':=by
 obtain⟨W',R',h1,h2,h3,h4⟩:=h
 exact⟨none,0,W',R',rfl,Nat.le_refl _,fun hn=>absurd hn (by show ¬0 < 0;omega),h1,h2,h3,h4,fun a e=>by cases e⟩
theorem bN.putP {w w1:World} {g:Nat} {s:TS} {W R:Nat->Prop} {qA:Option Addr} {qc:Nat} {lq:List WE} {pA:Option Addr} {pc:Nat} {lp lp':List PE} {ub cb:Nat} (h:bN w g s W R qA qc lq pA pc lp ub cb)
  (hk:aa (fun k=>∃a,pA=some a/\k=a.block) w w1) (hs:SL w1 94 3 pA lp.length pc (lp'.flatMap PE.cells)) (hl:lp'.length=lp.length)
  (he:∀e,e∈lp'->ci w1 R e.A e.v.n e.c e.v.z) (pr:∀e,e∈lp'->0<=e.v.ct/\e.v.ct < 4294967296):bN w1 g { s with P:=lp'.map (·.v) } W R qA qc lq pA pc lp' ub cb:=by
 have hs1:∀a,qA=some a->¬∃b,pA=some b/\a.block=b.block:=fun a ha ⟨b,hb,e⟩=>h.qp a b ha hb e;have pk:∀{A:Option Addr} {n c:Nat} {z:Nat->Int},ci w R A n c z->ci w1 R A n c z:=fun hp=>hp.keep hk (fun k ⟨a,ha,e⟩ hr=>h.dis k (by rw[e];exact h.wp a ha) hr);refine⟨?_,h.qv,rfl,h.q.keepF hk hs1,by rw[hl];exact hs,h.u.keep (hk.block ub h.u.lt (fun⟨a,ha,e⟩=>h.pu a ha e.symm)),(hk.block cb (h.win _ h.wc) (fun⟨a,ha,e⟩=>h.kp a ha e)).trans h.k,
  fun e he2=>pk (h.qe e he2),he,(fun e he=>(by obtain⟨x,hx,rfl⟩:=List.mem_map.1 he;exact pr x hx)),h.wg,h.wu,h.wc,h.wq,h.wp,h.kg,h.ku,h.kq,h.kp,h.dis,
  fun k hw=>bg (h.win k hw) hk.size,fun k hw=>bg (h.rin k hw) hk.size,h.now0,h.next0⟩
 rw[hl]
 exact hk.blk h.blk (fun⟨a,ha,e⟩=>h.gp a ha e)
theorem jy.next {W R:Nat->Prop} {w w1 w2:World} {g:Nat} {s:TS} (h:jy W R w w1 g s) (hb:Below w1.heap.size w1 w2):jy W R w w2 g s:=by
 obtain⟨W',R',h1,h2,h3,h4⟩:=h
 exact⟨W',R',h1.below hb,h2,h3,h4.more hb⟩
def uq (cf:aZ):TS:=⟨cf,0,0,[],[],[aw cf.key],i6⟩
section
variable {w0 w w':World} {g1 g2 g3:Nat} {s1 s2 s3:TS} {N:Nat->Prop}
end
def za:aZ:={ aZ.zero with ds:=5 }
def cS:TS:={ uq za with now:=4,next:=1 }
def dS:TS:={ uq za with now:=5 }
end Go.Proofs.YtiiojpnckbglcaaGreat

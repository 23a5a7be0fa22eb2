import Derived.Test.YtjanmleoomoedaaGreatMGE
import Derived.Test.YtjanmleoomoedaaGreatMGB
import Derived.Test.YtjanmleoomoedaaGreatMGG
namespace Go.Proofs.YtjanmleoomoedaaGreat
open Go.RowKit
set_option linter.unusedVariables false
private theorem zh {p:Prop} (h:p):Hid p:=h
private theorem tkH {P:Program} {ops:Array Oper} {Q:Exit→Act→World→Prop} {md:Region.Mode} {S:World→Prop} {i:Nat} {oi:Oper} {v:Value} {fuel:Nat} {listed l':Array Bool} {a a':Act} {w:World} (hi:ops[i]? = some oi) (hy:YieldsIf P ops S oi v a) (hS:S w)
  (h:wpAnyH P md ops Q S fuel l' a' w) (hl:listed.setIfInBounds i true=l':=by(try simp only[List.setIfInBounds_toArray,List.set_cons_zero,List.set_cons_succ]);rfl) (ha:a.put oi.dst v=a':=by(try simp only[Act.put,List.setIfInBounds_toArray,List.set_cons_zero,List.set_cons_succ]);rfl) (hs:Region.noSelect ops=true:=by kernel_rfl) (hf:Region.free md ops listed i=true:=by kernel_rfl) (hr:(Region.ready md ops listed).contains i=true:=by kernel_rfl)
  (hQ:∀c a w,Q (.panic c) (a.put oi.dst v) w→Q (.panic c) a w:=by exact fun _ _ _ h=>h):wpAnyH P md ops Q S (fuel+1) listed a w:=by subst hl;subst ha;exact wpAnyH_take hi hs hf hr hQ hy hS h
def nf (f:Nat→Int):Nat→Nat:=fun j=>(f j).toNat
theorem nf_cast {f:Nat→Int} {n:Nat} (h:∀j,j < n→0≤f j∧f j < 256) {j:Nat} (hj:j < n):((nf f j:Nat):Int)=f j:=Int.toNat_of_nonneg (h j hj).1
theorem nf_lt {f:Nat→Int} {n:Nat} (h:∀j,j < n→0≤f j∧f j < 256) {j:Nat} (hj:j < n):nf f j < 256:=by
 have:=h j hj
 unfold nf
 omega
def hdB (ct:Nat):Nat→Nat:=fun j=>if j=0 then 128+ct / 256 % 16 else ct % 256
theorem hdB_lt (ct j:Nat):hdB ct j < 256:=by unfold hdB;split<;>omega
def byte4 (v j:Nat):Nat:=v / 2 ^ (24-8*j) % 256
theorem byte4_lt (v j:Nat):byte4 v j < 256:=Nat.mod_lt _ (by decide)
def plainN (cf:Cfg) (n:Nat):Nat:=if cf.ig=true then n+4 else n
def plainZ (cf:Cfg) (ct n:Nat) (z:Nat→Nat):Nat→Nat:=catF z n (byte4 (codeF (nf cf.code) ct cf.b.toNat cf.d.toNat (catF (hdB ct) 2 z) (2+n)))
theorem plainZ_lt {cf:Cfg} {ct n:Nat} {z:Nat→Nat} (hz:∀j,j < n→z j < 256) (j:Nat):plainZ cf ct n z j < 256:=by
 unfold plainZ catF
 split
 ·exact hz _ (by assumption)
 ·exact byte4_lt _ _
def pduN (cf:Cfg) (n:Nat):Nat:=2+plainN cf n
def pduZ (cf:Cfg) (ct n:Nat) (z:Nat→Nat):Nat→Nat:=catF (hdB ct) 2 (cryF (nf cf.key) ct cf.b.toNat cf.d.toNat (plainZ cf ct n z))
def TS.gone (s:TS) (n:Int) (q:QV):Bool:=decide (0 < s.C.ds) && decide (s.C.ds≤n-q.at_)
def TS.tick (s:TS) (t:Int):TS:={ s with now:=max s.now t,Q:=s.Q.filter (fun q=>!s.gone (max s.now t) q) }
structure TS.Fine (s:TS):Prop where
 ok:s.C.Ok
 val:s.C.Valid
 at_:∀q,q∈s.Q→0≤q.at_∧q.at_≤s.now
theorem TS.Fine.tick {s:TS} (h:s.Fine) (t:Int):(s.tick t).Fine:=
 ⟨h.ok,h.val,fun q hq=>by
  have:=h.at_ q (List.mem_filter.1 hq).1
  show 0≤q.at_∧q.at_≤max s.now t
  omega⟩
theorem TS.tick_len (s:TS) (t:Int):(s.tick t).Q.length≤s.Q.length:=List.length_filter_le _ _
def TS.submit (s:TS) (t:Int) (n:Nat) (z:Nat→Int):Int×TS:=
 if 1073741824≤t then (2,s) else if n=0 then (5,s.tick t) else if 9000 < n then (4,s.tick t) else (0,{ s.tick t with Q:=(s.tick t).Q++[⟨n,z,max s.now t⟩] })
theorem TS.Fine.submit {s:TS} (h:s.Fine) (hn:0≤s.now) (t:Int) (n:Nat) (z:Nat→Int):(s.submit t n z).2.Fine:=by
 unfold TS.submit
 have ht:=h.tick t
 split
 ·exact h
 ·split
  ·exact ht
  ·split
   ·exact ht
   ·refine⟨h.ok,h.val,fun q hq=>?_⟩
    rcases List.mem_append.1 hq with hq | hq
    ·exact ht.at_ q hq
    ·rw[List.mem_singleton.1 hq]
     show 0≤max s.now t∧max s.now t≤max s.now t
     omega
def firstRep:List PV→Option (Nat×PV)
 | []=>none
 | p :: r=>if p.rep=true then some (0,p) else (firstRep r).map fun x=>(x.1+1,x.2)
theorem firstRep_some:∀{l:List PV} {i:Nat} {p:PV},firstRep l=some (i,p)→l[i]? = some p∧p.rep=true∧∀j,j < i→∀e,l[j]? = some e→e.rep=false
 | [],i,p,h=>by cases h
 | q :: r,i,p,h=>by
  unfold firstRep at h
  split at h
  ·cases h
   exact⟨rfl,by assumption,fun j hj=>absurd hj (by omega)⟩
  ·cases hr:firstRep r with
   | none=>rw[hr]at h;cases h
   | some x=>
    obtain⟨x1,x2⟩:=x
    rw[hr]at h
    simp only[Option.map_some,Option.some.injEq,Prod.mk.injEq]at h
    obtain⟨rfl,rfl⟩:=h
    obtain⟨h1,h2,h3⟩:=firstRep_some hr
    refine⟨by simpa using h1,h2,fun j hj e he=>?_⟩
    cases j with
    | zero=>
     have:q=e:=by simpa using he
     subst this
     simpa using ‹¬q.rep=true›
    | succ j=>exact h3 j (by omega) e (by simpa using he)
theorem firstRep_none:∀{l:List PV},firstRep l=none→∀e,e∈l→e.rep=false
 | [],_,e,he=>by cases he
 | q :: r,h,e,he=>by
  unfold firstRep at h
  split at h
  ·cases h
  ·have hr:firstRep r=none:=by
    cases hx:firstRep r with
    | none=>rfl
    | some x=>rw[hx]at h;cases h
   rcases List.mem_cons.1 he with rfl | he
   ·simpa using ‹¬e.rep=true›
   ·exact firstRep_none hr e he
def TS.full (s:TS):Bool:=match s.P with | []=>false | p :: _=>decide (2048≤(s.next-p.ct) % 18446744073709551616)
structure NX where
 n:Nat
 z:Nat→Nat
 ct:Int
 e:Int
 s:TS
def TS.send (s:TS) (t:Int):NX:=
 if 1073741824≤t then ⟨0,zB,0,2,s⟩ else
 match firstRep s.P with
 | some (i,p)=>⟨pduN s.C p.n,pduZ s.C p.ct.toNat p.n (nf p.z),p.ct,0,{ s.tick t with P:=s.P.set i { p with rep:=false } }⟩
 | none=>
  match (s.tick t).Q with
  | []=>⟨0,zB,0,10,s.tick t⟩
  | q :: r=>
   if s.next=4294967296 then ⟨0,zB,0,460,s.tick t⟩ else
   if s.full=true then ⟨0,zB,0,7,s.tick t⟩ else
   ⟨pduN s.C q.n,pduZ s.C s.next.toNat q.n (nf q.z),s.next,0,{ s.tick t with Q:=r,next:=s.next+1,P:=if s.C.ac=true then s.P++[⟨s.next,q.n,q.z,false⟩] else s.P }⟩
theorem TS.Fine.send {s:TS} (h:s.Fine) (t:Int):(s.send t).s.Fine:=by
 unfold TS.send
 have ht:=h.tick t
 split
 ·exact h
 ·split
  ·exact⟨ht.ok,ht.val,ht.at_⟩
  ·split
   ·exact ht
   ·split
    ·exact ht
    ·split
     ·exact ht
     ·rename_i hq _ _
      exact⟨ht.ok,ht.val,fun q hq'=>ht.at_ q (by rw[hq];exact List.mem_cons_of_mem _ hq')⟩
section
variable {P:Program}
theorem run_clear_many (w:World) (t e ty:TypeId) (z:Value) (ht:P.underlying t=some (.slice e)) (hv:∀w,(zeroValue e).run P w=.ok z w) (h1:∀v,v∈z.cells→v.oneCell'=true) (b o m c:Nat)
  (hc:∀j,j < m*z.cells.size→(w.cell? ⟨b,o+j,none⟩).isSome=true) (hf:∀j,j < m*z.cells.size→w.frozen? ⟨b,o+j,none⟩=false) :
  (Builtin.clear_ #[t] ty #[.slice (some ⟨b,o,none⟩) m c]).run P w=.ok (.tuple #[]) (w.setCells b o (Builtin.zeroCells z.cells m).toList):=by
 have hlen:(Builtin.zeroCells z.cells m).toList.length=m*z.cells.size:=by simp[Builtin.zeroCells]
 have hst:=run_storeCells_cells (P:=P) b o (Builtin.zeroCells z.cells m).toList 0 w (by rw[hlen];simpa using hc) (by rw[hlen];simpa using hf) (fun v hv=>by
  simp only[Builtin.zeroCells,Array.toList_map,List.mem_map,Array.mem_toList_iff,Array.mem_range]at hv
  obtain⟨i,hi,rfl⟩:=hv
  have hpos:0 < z.cells.size:=by
   rcases Nat.eq_zero_or_pos z.cells.size with h0 | h0
   ·rw[h0]at hi;simp at hi
   ·exact h0
  have hlt:i % z.cells.size < z.cells.size:=Nat.mod_lt _ hpos
  rw[getElem!_pos z.cells (i % z.cells.size) hlt]
  exact h1 _ (Array.getElem_mem hlt))
 simp only[Nat.add_zero]at hst
 cases m with
 | zero=>simp[Builtin.clear_,run_underlying ht,Builtin.zeroCells,World.setCells]
 | succ m=>simp[Builtin.clear_,run_underlying ht,hv,hst]
end
theorem flat_set {α:Type} (f:α→List Value) (sz:Nat) (hf:∀x,(f x).length=sz) (l:List α) (k:Nat) (hk:k < l.length) (x:α) (j:Nat) :
  ((l.set k x).flatMap f)[j]? = if k*sz≤j∧j < k*sz+sz then (f x)[j-k*sz]? else (l.flatMap f)[j]?:=by
 rcases Nat.eq_zero_or_pos sz with h0 | hp
 ·subst h0
  have hnil:∀l:List α,l.flatMap f=[]:=fun l=>List.eq_nil_of_length_eq_zero (by rw[flat_len f 0 hf];simp)
  rw[hnil,hnil]
  rw[if_neg (by omega)]
 ·have hj:=Nat.div_add_mod j sz
  have hm:=Nat.mod_lt j hp
  have hje:j=j / sz*sz+j % sz:=by rw[Nat.mul_comm];omega
  by_cases hjl:j / sz < l.length
  ·have e1:=flat_at f sz hf (l.set k x) (j / sz) (j % sz)
   have e2:=flat_at f sz hf l (j / sz) (j % sz)
   rw[←hje]at e1 e2
   by_cases hkj:j / sz=k
   ·rw[e1 x (by rw[hkj,List.getElem?_set_self hk]) hm,if_pos ⟨by rw[←hkj];omega,by rw[←hkj];omega⟩,show j-k*sz=j % sz by rw[←hkj];omega]
   ·have hne:¬(k*sz≤j∧j < k*sz+sz):=fun⟨h1,h2⟩=>hkj (by
     exact Nat.div_eq_of_lt_le (m:=j) (n:=sz) (k:=k) h1 (by rw[Nat.add_mul];omega))
    rw[if_neg hne,e1 (l[j / sz]) (by rw[List.getElem?_set_ne (fun e=>hkj e.symm),List.getElem?_eq_getElem hjl]) hm,e2 (l[j / sz]) (List.getElem?_eq_getElem hjl) hm]
  ·have hge:l.length*sz≤j:=by
    have:=Nat.mul_le_mul_right sz (show l.length≤j / sz by omega)
    omega
   have hk2:(k+1)*sz≤l.length*sz:=Nat.mul_le_mul_right _ hk
   rw[Nat.add_mul]at hk2
   rw[if_neg (by omega),List.getElem?_eq_none (by rw[flat_len f sz hf,List.length_set];exact hge),List.getElem?_eq_none (by rw[flat_len f sz hf];exact hge)]
theorem SL.setAt {α:Type} {f:α→List Value} {w:World} {e:TypeId} {sz:Nat} (hf:∀x,(f x).length=sz) {b o n c:Nat} {l:List α} (h:SL w e sz (some ⟨b,o,none⟩) n c (l.flatMap f)) (k:Nat) (hk:k < n) (x:α) :
  SL (w.setCells b (o+k*sz) (f x)) e sz (some ⟨b,o,none⟩) n c ((l.set k x).flatMap f):=by
 have hln:l.length*sz=n*sz:=by rw[←h.len,flat_len f sz hf]
 rcases h.at_ with ⟨h1,h2,h3⟩ | ⟨b',o',cur,h1,h2,h3,h4,h5,h6⟩
 ·cases h1
 cases h1
 have hks:(k+1)*sz≤n*sz:=Nat.mul_le_mul_right _ hk
 have hcs:n*sz≤c*sz:=Nat.mul_le_mul_right _ h3
 rw[Nat.add_mul]at hks
 refine⟨by rw[flat_len f sz hf,List.length_set,hln],.inr ⟨b,o,_,rfl,ts_setCells (f x) _ w cur h2,h3,h4,by rw[tsAll_size];exact h5,fun j hj=>?_⟩⟩
 rcases Nat.eq_zero_or_pos sz with h0 | hp
 ·subst h0;simp at hj
 have hkl:k < l.length:=by
  rcases Nat.lt_or_ge k l.length with h | h
  ·exact h
  ·have:=Nat.mul_le_mul_right sz h;omega
 rw[flat_set f sz hf l k hkl]
 by_cases hin:k*sz≤j∧j < k*sz+sz
 ·rw[if_pos hin]
  have:=tsAll_in (f x) (o+k*sz) cur (j-k*sz) (by rw[hf];omega) (by omega)
  rwa [show o+k*sz+(j-k*sz)=o+j by omega]at this
 ·rw[if_neg hin,tsAll_out _ _ _ _ (by rw[hf];omega),h6 j hj]
end Go.Proofs.YtjanmleoomoedaaGreat
namespace Go.Proofs.YtjanmleoomoedaaGreat
open Go.RowKit
set_option linter.unusedVariables false
attribute [local go_sem ↓] Go.wp_at_zero Go.wp_at_succ
structure DL {α:Type} (l:List α) (p:α→Bool) (j i:Nat) (L:List α):Prop where
 len:L.length=l.length
 ij:i≤j
 jl:j≤l.length
 pre:L.take i=(l.take j).filter (fun x=>!p x)
 rest:∀k,j≤k→L[k]? = l[k]?
theorem DL.start {α:Type} {l:List α} {p:α→Bool} {i:Nat} {x:α} (hx:l[i]? = some x) (hp:p x=true) (hno:∀k,k < i→∀y,l[k]? = some y→p y=false):DL l p (i+1) i l:=by
 have hil:i < l.length:=(List.getElem?_eq_some_iff.1 hx).1
 have hxe:l[i] = x:=(List.getElem?_eq_some_iff.1 hx).2
 refine⟨rfl,by omega,hil,?_,fun _ _=>rfl⟩
 rw[List.take_succ_eq_append_getElem hil,List.filter_append,hxe]
 have:(l.take i).filter (fun x=>!p x)=l.take i:=List.filter_eq_self.2 fun y hy=>by
  obtain⟨k,hk,rfl⟩:=List.mem_iff_getElem.1 hy
  have hk2:k < i:=by simp at hk;omega
  rw[List.getElem_take]
  simp[hno k hk2 l[k] (List.getElem?_eq_getElem (by omega))]
 rw[this]
 simp[hp]
theorem DL.keep {α:Type} {l L:List α} {p:α→Bool} {j i:Nat} {x:α} (h:DL l p j i L) (hx:l[j]? = some x) (hp:p x=false):DL l p (j+1) (i+1) (L.set i x):=by
 have hjl:j < l.length:=(List.getElem?_eq_some_iff.1 hx).1
 have hxe:l[j] = x:=(List.getElem?_eq_some_iff.1 hx).2
 have hij:=h.ij
 have hlen:=h.len
 refine⟨by simp[h.len],by omega,by omega,?_,fun k hk=>?_⟩
 ·rw[List.take_succ_eq_append_getElem hjl,List.filter_append,hxe,←h.pre,List.take_succ_eq_append_getElem (by simp;omega)]
  simp[hp,List.take_set_of_le]
 ·rw[List.getElem?_set_ne (by omega)]
  exact h.rest k (by omega)
theorem DL.drop {α:Type} {l L:List α} {p:α→Bool} {j i:Nat} {x:α} (h:DL l p j i L) (hx:l[j]? = some x) (hp:p x=true):DL l p (j+1) i L:=by
 have hjl:j < l.length:=(List.getElem?_eq_some_iff.1 hx).1
 have hxe:l[j] = x:=(List.getElem?_eq_some_iff.1 hx).2
 have hij:=h.ij
 refine⟨h.len,by omega,by omega,?_,fun k hk=>h.rest k (by omega)⟩
 rw[List.take_succ_eq_append_getElem hjl,List.filter_append,hxe,←h.pre]
 simp[hp]
theorem DL.done {α:Type} {l L:List α} {p:α→Bool} {i:Nat} (h:DL l p l.length i L):L.take i=l.filter (fun x=>!p x):=by
 have:=h.pre
 rwa [List.take_length]at this
theorem firstP_cases (p:Nat→Bool) (n:Nat):(∃i,i < n∧firstP p 0 n=(i:Int)∧p i=true∧∀j,j < i→p j=false)∨(firstP p 0 n = -1∧∀j,j < n→p j=false):=by
 have:∀d k,k+d=n→(∀j,j < k→p j=false)→(∃i,i < n∧firstP p k d=(i:Int)∧p i=true∧∀j,j < i→p j=false)∨(firstP p k d = -1∧∀j,j < n→p j=false):=by
  intro d
  induction d with
  | zero=>intro k h1 h2;exact .inr ⟨rfl,fun j hj=>h2 j (by omega)⟩
  | succ d ih=>
   intro k h1 h2
   rw[firstP]
   by_cases hk:p k=true
   ·rw[if_pos hk]
    exact .inl ⟨k,by omega,rfl,hk,h2⟩
   ·rw[if_neg hk]
    refine ih (k+1) (by omega) (fun j hj=>?_)
    by_cases hjk:j=k
    ·subst hjk;simpa using hk
    ·exact h2 j (by omega)
 exact this n 0 (by omega) (fun j hj=>absurd hj (by omega))
def goneB (ds n a:Int):Bool:=decide (0 < ds) && decide (ds≤n-a)
set_option maxRecDepth 100000 in
theorem tgone_ok (ds n a:Int) (h1:0≤ds∧ds≤1073741824) (h2:0≤a∧a≤n) (h3:n < 1073741824) (A:Option Addr) (m c g tb:Nat) (w:World) (x0:w.cell? ⟨tb,0,none⟩=some (.pointer (some ⟨g,0,none⟩))) (x1:w.cell? ⟨g,37,none⟩=some (.int .i64 ds)) (x2:w.cell? ⟨g,40,none⟩=some (.int .i64 n)) (l1:tb < w.heap.size) (l2:g < w.heap.size) :
  Calls Tryz.prog 55 #[.agg #[.slice A m c,.int .i64 a],.pointer (some ⟨tb,0,none⟩)] w fun e w'=>e=.returned (.bool (goneB ds n a))∧Below w.heap.size w w':=by
 have HG:=zh (show goneB ds n a=(decide (0 < ds) && decide (ds≤n-a))from rfl)
 go_enter Tryz.func55,Tryz.ntmps55
 go_upto_region 1 with (fail)
 refine wp_let (fun V=>V.cell? ⟨w.heap.size,1,none⟩=some (.int .i64 a)∧V.cell? ⟨tb,0,none⟩=some (.pointer (some ⟨g,0,none⟩))∧V.cell? ⟨g,37,none⟩=some (.int .i64 ds)∧V.cell? ⟨g,40,none⟩=some (.int .i64 n)∧Below w.heap.size w V) ⟨(Blk.new _ _ _).cell 1,Lib.cell?_alloc_some _ x0,Lib.cell?_alloc_some _ x1,Lib.cell?_alloc_some _ x2,(Below.refl _ w).alloc (Nat.le_refl _) _⟩ ?_
 rintro W1 ⟨y,y0,y1,y2,b1⟩
 have B1:=zh b1
 obtain⟨bb,hbb⟩:∃bb,bb=w.heap.size:=⟨_,rfl⟩
 rw[←hbb]at y B1 ⊢
 have HBB:=zh hbb
 clear x0 x1 x2 b1 hbb
 have s1:-9223372036854775808≤n-a:=by omega
 have s2:n-a≤9223372036854775807:=by omega
 by_cases c0:0 < ds
 ·have d0:decide (0 < ds)=true:=decide_eq_true c0
  by_cases c1:ds≤n-a
  ·have d1:decide (ds≤n-a)=true:=decide_eq_true c1
   go_quiet (fail)
   go_wp2
   go_ret
   exact⟨ret_bool (by rw[HG.out,d0,d1];first | rfl | simp[*]),by rw[←HBB.out];exact below_drewN B1.out _⟩
  ·have d1:decide (ds≤n-a)=false:=decide_eq_false c1
   go_quiet (fail)
   go_wp2
   go_ret
   exact⟨ret_bool (by rw[HG.out,d0,d1];first | rfl | simp[*]),by rw[←HBB.out];exact below_drewN B1.out _⟩
 ·have d0:decide (0 < ds)=false:=decide_eq_false c0
  go_quiet (fail)
  go_wp2
  go_ret
  exact⟨ret_bool (by rw[HG.out,d0];first | rfl | simp[*]),by rw[←HBB.out];exact below_drewN B1.out _⟩
def delAt (lq:List WE) (p:WE→Bool) (k:Nat):Bool:=match lq[k]? with | some e=>p e | none=>false
def Picks (p:WE→Bool) (tb:Nat) (lq:List WE) (W:World):Prop:=∀e,e∈lq→Calls Tryz.prog 55 #[.agg #[.slice e.A e.v.n e.c,.int .i64 e.v.at_],.pointer (some ⟨tb,0,none⟩)] W fun x w'=>x=.returned (.bool (p e))∧Below W.heap.size W w'
set_option maxRecDepth 100000 in
theorem windex_ok (A:Option Addr) (n c:Nat) (lq:List WE) (hn:n=lq.length) (p:WE→Bool) (tb:Nat) (w:World) (h:SL w 71 2 A n c (lq.flatMap WE.cells)) (hx:∀W,Below w.heap.size w W→Picks p tb lq W) :
  Calls Tryz.prog 64 #[.slice A n c,.func (.func 55) #[] #[.pointer (some ⟨tb,0,none⟩)]] w fun e w'=>e=.returned (.int .i64 (firstP (delAt lq p) 0 n))∧Below w.heap.size w w':=by
 have hcm:=h.cmax
 have hle:=h.le
 unfold maxLen at hcm
 have HSL:=zh h
 have HX:=zh hx
 obtain⟨F,hF⟩:∃F,F=delAt lq p:=⟨_,rfl⟩
 have HF0:=zh hF
 have HN:=zh hn
 rw[←hF]
 clear h hx hF hn
 go_enter Tryz.func64,Tryz.ntmps64
 go_wp2
 go_loopw [8] (fun v wr=>∃k:Nat,k≤n∧v=.int .i64 k∧firstP F 0 n=firstP F k (n-k)∧Below w.heap.size w wr) (fun v _=>n-(intOf v).toNat)
 case atStart=>exact⟨0,by omega,rfl,rfl,Below.refl _ _⟩
 case round=>
  obtain⟨k,hk,rfl,hfw,hb⟩:=hrel
  have HF:=zh hfw
  have HB:=zh hb
  clear hfw hb
  by_cases hlt2:k < n
  ·obtain⟨e0,he0⟩:∃e0,lq[k]? = some e0:=⟨lq[k]'(by have:=HN.out;omega),by simp[HN.out ▸ hlt2]⟩
   have hS:=HSL.out.next HB.out
   obtain⟨b,o,hA,hbl⟩:=hS.some_ (by omega)
   have c0:=hS.cell hA (j:=k*2+0) (by omega)
   have c1:=hS.cell hA (j:=k*2+1) (by omega)
   rw[flat_at WE.cells 2 WE.len lq k _ e0 he0 (by omega)]at c0 c1
   have hFk:F k=p e0:=by rw[HF0.out];unfold delAt;rw[he0]
   have HC:=zh (HX.out wr HB.out e0 (List.mem_of_getElem? he0))
   simp only[WE.cells,List.getElem?_cons_zero,List.getElem?_cons_succ,Nat.add_zero]at c0 c1
   have HST:=zh (firstP_step F k n hlt2)
   obtain⟨bb,hbb⟩:∃bb,bb=p e0:=⟨_,rfl⟩
   rw[←hbb]at HC hFk
   have HFk:=zh hFk
   subst hA
   clear hbb hFk hS he0
   have k0:(0:Int)≤(k:Int):=by omega
   have k1:(k:Int) < (n:Int):=by omega
   rw[←Nat.add_assoc]at c1
   cases bb
   ·have HS2:=zh (HST.out.trans (if_neg (by rw[HFk.out];decide)))
    go_wp2_with (go_at_call 55;refine(HC.out).mono ?_;rintro e w2 ⟨rfl,hB2⟩;have HB2:=zh (HB.out.trans (hB2.mono HB.out.size));clear hB2)
    go_roundw
    case rel=>exact⟨k+1,by omega,by go_num,by rw[HF.out,HS2.out],HB2.out⟩
    case measure=>simp[intOf];omega
   ·have HS2:=zh (HST.out.trans (if_pos HFk.out))
    go_wp2_with (go_at_call 55;refine(HC.out).mono ?_;rintro e w2 ⟨rfl,hB2⟩;have HB2:=zh (HB.out.trans (hB2.mono HB.out.size));clear hB2)
    go_ret
    exact⟨ret_int (by rw[HF.out,HS2.out]),HB2.out⟩
  ·obtain rfl:k=n:=by omega
   have HF2:=zh (show firstP F 0 k = -1 by rw[HF.out,Nat.sub_self];rfl)
   clear HF
   go_wp2
   go_ret
   exact⟨ret_int HF2.out.symm,HB.out⟩
end Go.Proofs.YtjanmleoomoedaaGreat
namespace Go.Proofs.YtjanmleoomoedaaGreat
open Go.RowKit
set_option linter.unusedVariables false
attribute [local go_sem ↓] Go.wp_at_zero Go.wp_at_succ
theorem zWait_run (w:World):(zeroValue 71).run Tryz.prog w=.ok (.agg #[.slice none 0 0,.int .i64 0]) w:=by kernel_rfl
theorem take_flatW (lq:List WE) (k:Nat):(lq.flatMap WE.cells).take (k*2)=(lq.take k).flatMap WE.cells:=by
 induction lq generalizing k with
 | nil=>simp
 | cons x r ih=>
  cases k with
  | zero=>simp
  | succ k=>rw[List.flatMap_cons,List.take_succ_cons,List.flatMap_cons,←ih k,show(k+1)*2=(WE.cells x).length+k*2 from by show _=2+k*2;omega,List.take_length_add_append]
set_option maxRecDepth 100000 in
set_option maxHeartbeats 1600000 in
theorem wdelete_ok (A:Option Addr) (n c:Nat) (lq:List WE) (hn:n=lq.length) (p:WE→Bool) (tb:Nat) (w:World) (h:SL w 71 2 A n c (lq.flatMap WE.cells)) (hx:∀W,KeepF (fun k=>∃a,A=some a∧k=a.block) w W→Picks p tb lq W) :
  Calls Tryz.prog 54 #[.slice A n c,.func (.func 55) #[] #[.pointer (some ⟨tb,0,none⟩)]] w fun e w'=>e=.returned (.slice A (lq.filter fun x=>!p x).length c)∧SL w' 71 2 A (lq.filter fun x=>!p x).length c ((lq.filter fun x=>!p x).flatMap WE.cells)∧KeepF (fun k=>∃a,A=some a∧k=a.block) w w':=by
 have hcm:=h.cmax
 have hle:=h.le
 unfold maxLen at hcm
 have HSL:=zh h
 have HN:=zh hn
 have HX:=zh hx
 have HI:=zh (windex_ok A n c lq hn p tb w h (fun W hW=>hx W (KeepF.of_below hW)))
 rcases firstP_cases (delAt lq p) n with ⟨i0,hi,hf,hp,hno⟩ | ⟨hf,hno⟩
 ·obtain⟨b,o,rfl,hbl⟩:=h.some_ (by omega)
  rw[hf]at HI
  obtain⟨e0,he0⟩:∃e0,lq[i0]? = some e0:=⟨lq[i0]'(by omega),by simp[hn ▸ hi]⟩
  have hp0:p e0=true:=by unfold delAt at hp;rw[he0]at hp;exact hp
  have hno0:∀k,k < i0→∀y,lq[k]? = some y→p y=false:=fun k hk y hy=>by
   have:=hno k hk
   unfold delAt at this
   rw[hy]at this
   exact this
  have HD0:=zh (DL.start he0 hp0 hno0)
  clear h hn hx hf hp hno he0 hp0 hno0
  have i0n:(0:Int)≤(i0:Int):=by omega
  have n9:(n:Int)≤9223372036854775807:=by omega
  have i9:(i0:Int)≤9223372036854775806:=by omega
  go_enter Tryz.func54,Tryz.ntmps54
  go_wp2_with (go_at_call 64;refine(HI.out).mono ?_;rintro e w1 ⟨rfl,hB1⟩;have HB1:=zh hB1;clear hB1)
  go_loopw [5,6] (fun v5 v6 wr=>∃(j i:Nat) (L:List WE),v5=.int .i64 i∧v6=.int .i64 j∧i < j∧DL lq p j i L∧SL wr 71 2 (some ⟨b,o,none⟩) n c (L.flatMap WE.cells)∧KeepF (fun k=>k=b) w wr) (fun _ v _=>n-(intOf v).toNat)
  case atStart=>exact⟨i0+1,i0,lq,rfl,by go_num,by omega,HD0.out,HSL.out.next HB1.out,KeepF.of_below HB1.out⟩
  case round=>
   obtain⟨j,i,L,rfl,rfl,hij,hD,hS,hK⟩:=hrel
   have HD:=zh hD
   have HS:=zh hS
   have HK:=zh hK
   have hjl:=hD.jl
   rw[←HN.out]at hjl
   clear hD hS hK
   have hin:i < n:=by omega
   have j0:(0:Int)≤(j:Int):=by omega
   have k0:(0:Int)≤(i:Int):=by omega
   have k1:(i:Int) < (n:Int):=by omega
   by_cases hlt:j < n
   ·obtain⟨x,hxj⟩:∃x,lq[j]? = some x:=⟨lq[j]'(by have:=HN.out;omega),by simp[HN.out ▸ hlt]⟩
    have HXJ:=zh hxj
    have hLj:L[j]? = some x:=(HD.out.rest j (Nat.le_refl _)).trans hxj
    have c0:=HS.out.cell rfl (j:=j*2+0) (by omega)
    have c1:=HS.out.cell rfl (j:=j*2+1) (by omega)
    rw[flat_at WE.cells 2 WE.len L j _ x hLj (by omega)]at c0 c1
    simp only[WE.cells,List.getElem?_cons_zero,List.getElem?_cons_succ,Nat.add_zero]at c0 c1
    rw[←Nat.add_assoc]at c1
    have HC:=zh (fun(V:World) (hV:Below wr.heap.size wr V)=>HX.out V ((HK.out.trans (KeepF.of_below (F:=fun k=>k=b) hV) (fun _ _ h=>h)).mono (fun k e=>⟨_,rfl,e⟩)) x (List.mem_of_getElem? hxj))
    have j1:(j:Int) < (n:Int):=by omega
    have hbl2:=HS.out.lt rfl
    clear hxj hLj
    go_upto_region 8 with (fail)
    refine wp_let (fun V=>Blk V wr.heap.size 71 #[.slice x.A x.v.n x.c,.int .i64 x.v.at_]∧Below wr.heap.size wr V) ⟨Blk.new _ _ _,(Below.refl _ wr).alloc (Nat.le_refl _) _⟩ ?_
    rintro V2 ⟨b1,b2⟩
    have v0:=b1.cell 0
    have v1:=b1.cell 1
    simp only[List.getElem?_toArray,List.getElem?_cons_zero,List.getElem?_cons_succ]at v0 v1
    have HC2:=zh (HC.out V2 b2)
    have B1:=zh b1
    have B2:=zh b2
    obtain⟨vb,hvb⟩:∃vb,vb=wr.heap.size:=⟨_,rfl⟩
    have HVB:=zh hvb
    obtain⟨bb,hbb⟩:∃bb,bb=p x:=⟨_,rfl⟩
    have HPX:=zh hbb
    rw[←hbb]at HC2
    rw[←hvb]at v0 v1 B1 B2 ⊢
    clear b1 b2 hvb hbb c0 c1
    cases bb
    ·go_upto_region 9 with (go_at_call 55;refine(HC2.out).mono ?_;rintro e w2 ⟨rfl,hB3⟩;have HB3:=zh hB3;clear hB3)
     have hB12:=zh (B2.out.trans (HB3.out.mono (by have:=B1.out.lt;omega)))
     have K2:=zh (HK.out.trans (KeepF.of_below (F:=fun k=>k=b) (hB12.out.mono (by rw[HVB.out];exact Nat.le_refl _))) (fun _ _ h=>h))
     have S2:=zh (HS.out.next (hB12.out.mono (by rw[HVB.out];exact Nat.le_refl _)))
     have B3:=B1.out.below HB3.out B1.out.lt
     have u0:=B3.cell 0
     have u1:=B3.cell 1
     simp only[List.getElem?_toArray,List.getElem?_cons_zero,List.getElem?_cons_succ]at u0 u1
     obtain⟨y,hy⟩:∃y,L[i]? = some y:=⟨L[i]'(by rw[HD.out.len,←HN.out];exact hin),List.getElem?_eq_getElem _⟩
     have d0:=S2.out.cell rfl (j:=i*2+0) (by omega)
     have d1:=S2.out.cell rfl (j:=i*2+1) (by omega)
     rw[flat_at WE.cells 2 WE.len L i _ y hy (by omega)]at d0 d1
     simp only[WE.cells,List.getElem?_cons_zero,List.getElem?_cons_succ,Nat.add_zero]at d0 d1
     rw[←Nat.add_assoc]at d1
     have f0:=S2.out.frozen rfl (o+i*2)
     have f1:=S2.out.frozen rfl (o+i*2+1)
     clear v0 v1 B3 hy
     go_upto_region 10 with (fail)
     refine wp_let (fun V=>SL V 71 2 (some ⟨b,o,none⟩) n c ((L.set i x).flatMap WE.cells)∧KeepF (fun k=>k=b) w V) ⟨S2.out.setAt WE.len i hin x,K2.out.trans (ts_keep (F:=fun k=>k=b) (b:=b) rfl x.cells (o+i*2) w2) (fun _ _ h=>h)⟩ ?_
     rintro V3 ⟨s1,s2⟩
     have S3:=zh s1
     have K3:=zh s2
     have HD3:=zh (HD.out.keep HXJ.out HPX.out.symm)
     clear s1 s2 u0 u1 d0 d1 f0 f1
     go_wp2
     go_roundw
     case rel=>((repeat apply Exists.intro);refine⟨?_,rfl⟩);exact⟨j+1,i+1,L.set i x,by go_num,by go_num,by omega,HD3.out,S3.out,K3.out⟩
     case measure=>simp[intOf];omega
    ·have HD3:=zh (HD.out.drop HXJ.out HPX.out.symm)
     go_wp2_with (go_at_call 55;refine(HC2.out).mono ?_;rintro e w2 ⟨rfl,hB3⟩;have HB3:=zh hB3;clear hB3)
     have hB12:=zh (B2.out.trans (HB3.out.mono (by have:=B1.out.lt;omega)))
     go_roundw
     case rel=>((repeat apply Exists.intro);refine⟨?_,rfl⟩);exact⟨j+1,i,L,by go_num,by go_num,by omega,HD3.out,HS.out.next (hB12.out.mono (by rw[HVB.out];exact Nat.le_refl _)),HK.out.trans (KeepF.of_below (F:=fun k=>k=b) (hB12.out.mono (by rw[HVB.out];exact Nat.le_refl _))) (fun _ _ h=>h)⟩
     case measure=>simp[intOf];omega
   ·obtain rfl:j=n:=by omega
    have hdone:=(HN.out ▸ HD.out).done
    have hil:i=(lq.filter fun x=>!p x).length:=by
     rw[←hdone,List.length_take,HD.out.len,←HN.out]
     omega
    have HDN:=zh hdone
    have HIL:=zh hil
    have hci:¬c=i:=by omega
    have hci2:¬c < i:=by omega
    have c9:(c:Int)≤9223372036854775807:=by omega
    have kc:(i:Int)≤(c:Int):=by omega
    have kn:(j:Int)≤(c:Int):=by omega
    have hzs:(#[.slice none 0 0,.int .i64 0]:Array Value).size=2:=rfl
    have hcl:∀ty,(Builtin.clear_ #[63] ty #[.slice (some ⟨b,o+i*2,none⟩) (j-i) (c-i)]).run Tryz.prog wr=.ok (.tuple #[]) (wr.setCells b (o+i*2) (Builtin.zeroCells #[.slice none 0 0,.int .i64 0] (j-i)).toList):=fun ty=>
     run_clear_many wr 63 71 ty (.agg #[.slice none 0 0,.int .i64 0]) Tryz.underlying63 zWait_run (by simp[Value.cells,Value.oneCell']) b (o+i*2) (j-i) (c-i)
      (fun q hq=>by
       have hq2:q < (j-i)*2:=hq
       have:=HS.out.room (j:=i*2+q) (by omega)
       rwa [←Nat.add_assoc]at this) (fun q hq=>HS.out.frozen rfl _)
    obtain⟨ZC,hZC⟩:∃ZC,ZC=(Builtin.zeroCells #[.slice none 0 0,.int .i64 0] (j-i)).toList:=⟨_,rfl⟩
    rw[←hZC]at hcl
    have HF:=zh ((HS.out.take i (by omega)).past (i*2) (Nat.le_refl _) ZC)
    have HG:=zh (HK.out.trans (ts_keep (F:=fun k=>k=b) (b:=b) rfl ZC (o+i*2) wr) (fun _ _ h=>h))
    obtain⟨wB,hwB⟩:∃wB,wB=wr.setCells b (o+i*2) ZC:=⟨_,rfl⟩
    rw[←hwB]at hcl HF HG
    clear hwB hZC hdone hil
    go_wp2
    go_ret
    have hh:=HF.out
    rw[take_flatW,HDN.out]at hh
    rw[←HIL.out]
    exact⟨rfl,hh,HG.out.mono (fun k e=>⟨_,rfl,e⟩)⟩
 ·rw[hf]at HI
  have hall:(lq.filter fun x=>!p x)=lq:=List.filter_eq_self.2 fun y hy=>by
   obtain⟨k,hk,rfl⟩:=List.mem_iff_getElem.1 hy
   have:=hno k (by omega)
   unfold delAt at this
   rw[List.getElem?_eq_getElem hk]at this
   simp only at this
   rw[this]
   rfl
  rw[hall,←hn]
  clear h hn hx hf hno hall
  go_enter Tryz.func54,Tryz.ntmps54
  go_wp2_with (go_at_call 64;refine(HI.out).mono ?_;rintro e w1 ⟨rfl,hB1⟩;have HB1:=zh hB1;clear hB1)
  go_ret
  exact⟨rfl,HSL.out.next HB1.out,KeepF.of_below HB1.out⟩
end Go.Proofs.YtjanmleoomoedaaGreat
namespace Go.Proofs.YtjanmleoomoedaaGreat
open Go.RowKit
set_option linter.unusedVariables false
attribute [local go_sem ↓] Go.wp_at_zero Go.wp_at_succ
theorem filt_map (lq:List WE) (p:QV→Bool):(lq.filter fun e=>!p e.v).map (·.v)=(lq.map (·.v)).filter fun q=>!p q:=by
 rw[List.filter_map];rfl
set_option maxRecDepth 100000 in
set_option maxHeartbeats 1600000 in
theorem ttick_ok (g:Nat) (s:TS) (W R:Nat→Prop) (w:World) (h:TxI w g s W R) (hf:s.Fine) (t:Int) (ht1:-9223372036854775808≤t) (ht2:t≤9223372036854775807) :
  Calls Tryz.prog 38 #[.pointer (some ⟨g,0,none⟩),.int .i64 t] w fun e w'=>e=.returned (.int .i64 (if 1073741824≤t then 2 else 0))∧TxO W R w w' g (if 1073741824≤t then s else s.tick t):=by
 have HM:=zh (fun(V:World) (hb:Below w.heap.size w V)=>tmade_ok g s W R V (h.below hb))
 have HI:=zh h
 obtain⟨qA,qc,lq,pA,pc,lp,ub,cb,hT⟩:=h
 have HT:=zh hT
 have HF:=zh hf
 have hgl:=hT.blk.lt
 clear hT hf
 by_cases ct:1073741824≤t
 ·rw[if_pos ct,if_pos ct]
  go_enter Tryz.func38,Tryz.ntmps38
  go_upto_region 1 with (fail)
  refine wp_let (fun V=>V.cell? ⟨w.heap.size,0,none⟩=some (.pointer (some ⟨g,0,none⟩))∧Below w.heap.size w V∧w.heap.size < V.heap.size) ⟨(Blk.new _ _ _).cell 0,(Below.refl _ w).alloc (Nat.le_refl _) _,by simp⟩ ?_
  rintro W1 ⟨b1,b2,b3⟩
  obtain⟨tb,htb⟩:∃tb,tb=w.heap.size:=⟨_,rfl⟩
  have HTB:=zh htb
  have B2:=zh b2
  rw[←htb]at b1 b3 ⊢
  clear b2 htb
  go_wp2_with (go_at_call 43;refine(HM.out _ B2.out).mono ?_;rintro e w2 ⟨rfl,rfl⟩)
  go_ret
  exact⟨rfl,TxO.same HI.out B2.out⟩
 rw[if_neg ct,if_neg ct]
 go_enter Tryz.func38,Tryz.ntmps38
 go_upto_region 1 with (fail)
 refine wp_let (fun V=>V.cell? ⟨w.heap.size,0,none⟩=some (.pointer (some ⟨g,0,none⟩))∧Below w.heap.size w V∧w.heap.size < V.heap.size) ⟨(Blk.new _ _ _).cell 0,(Below.refl _ w).alloc (Nat.le_refl _) _,by simp⟩ ?_
 rintro W1 ⟨b1,b2,b3⟩
 obtain⟨tb,htb⟩:∃tb,tb=w.heap.size:=⟨_,rfl⟩
 have HTB:=zh htb
 have B2:=zh b2
 rw[←htb]at b1 b3 ⊢
 clear b2 htb
 go_upto_region 5 with (go_at_call 43;refine(HM.out _ B2.out).mono ?_;rintro e w2 ⟨rfl,rfl⟩)
 have T1:=zh (HT.out.below B2.out)
 have c1:=T1.out.cnow
 have hn0:=HT.out.now0
 obtain⟨nw,hnw⟩:∃nw,nw=s.now:=⟨_,rfl⟩
 rw[←hnw]at c1 hn0
 have f1:=T1.out.blk.frozen 40
 obtain⟨mx,hmx⟩:∃mx,mx=max nw t:=⟨_,rfl⟩
 have HMX:=zh hmx
 have HNW:=zh hnw
 clear hnw
 go_region
 have hmx2:(if nw < t then t else nw)=mx:=by rw[HMX.out];split<;>omega
 rw[hmx2]
 have hmr:0≤mx∧mx < 1073741824:=by rw[HMX.out];omega
 have TM:=T1.out.setNow mx hmr
 have HTG:=zh (show tb ≠ g by have:=HTB.out;omega)
 have kg:KeepF (fun k=>k=g) W1 (W1.setCell ⟨g,40,none⟩ (.int .i64 mx)):=(KeepF.refl (F:=fun k=>k=g)).setCell (p:=⟨g,40,none⟩) rfl _
 refine then_let (fun V=>TxM V g { s with now:=mx } W R qA qc lq pA pc lp ub cb∧KeepF W w V∧V.cell? ⟨tb,0,none⟩=some (.pointer (some ⟨g,0,none⟩))∧tb < V.heap.size) ⟨TM.below (Below.refl _ _).drew,((KeepF.of_below B2.out).setCell (p:=⟨g,40,none⟩) T1.out.wg _).drew,(kg.drew.cell (p:=⟨tb,0,none⟩) b3 HTG.out).trans b1,Nat.lt_of_lt_of_le b3 kg.drew.size⟩ ?_
 rintro V ⟨d1,d2,d3,d4⟩
 have TV:=zh d1
 have KV:=zh d2
 obtain⟨w0,hw0⟩:∃w0,w0=V.drew:=⟨_,rfl⟩
 have hb0:Below V.heap.size V w0:=by rw[hw0];exact(Below.refl _ _).drew
 have HQB:=zh (show ∀a,qA=some a→tb ≠ a.block from fun a ha e=>by have:=HT.out.q.lt ha;have:=HTB.out;omega)
 have HSB:=zh (show ∀W',KeepF (fun j=>j=g∨∃a,qA=some a∧j=a.block) V W'→W'.cell? ⟨tb,0,none⟩=some (.pointer (some ⟨g,0,none⟩))from fun W' hW=>(hW.cell (p:=⟨tb,0,none⟩) d4 (fun h=>by rcases h with h | ⟨a,ha,e⟩;exact HTG.out h;exact HQB.out a ha e)).trans d3)
 have T0:=zh (TV.out.below hb0)
 have HD4:=zh d4
 have HP:=zh (show ∀W',KeepF (fun k=>∃a,qA=some a∧k=a.block) w0 W'→Picks (fun e=>s.gone mx e.v) tb lq W' from fun W' hW e he=>by
  have hS:=HSB.out W' (((KeepF.of_below hb0).trans hW (fun k _ h=>h)).mono (fun k h=>.inr h))
  have hg:¬∃a,qA=some a∧g=a.block:=fun⟨a,ha,e⟩=>T0.out.gq a ha e
  have hgl0:=T0.out.blk.lt
  have ha:=HF.out.at_ e.v (by rw[←T0.out.qv];exact List.mem_map_of_mem he)
  have hv:=HF.out.val
  exact tgone_ok s.C.ds mx e.v.at_ ⟨hv.2.2.2.1,hv.2.2.2.2.1⟩ ⟨ha.1,by rw[HMX.out];have:=HNW.out;omega⟩ hmr.2 e.A e.v.n e.c g tb W' hS
   ((hW.cell (p:=⟨g,37,none⟩) hgl0 hg).trans (T0.out.cC (j:=37) (by decide))) ((hW.cell (p:=⟨g,40,none⟩) hgl0 hg).trans T0.out.cnow) (Nat.lt_of_lt_of_le HD4.out (Nat.le_trans hb0.size hW.size)) (Nat.lt_of_lt_of_le hgl0 hW.size))
 clear d1 d2 d3 b1 b3 kg TM c1 f1 hmx2 B2 T1
 go_upto_region 6 with (fail)
 refine wp_region_held_drew (S:=fun w'=>KeepF (fun j=>j=g∨∃a,qA=some a∧j=a.block) V w') (by kernel_rfl) ((KeepF.refl (w:=V)).drew) (fun hHeld=>?_)
 rw[←hw0]
 rw[←hw0]at hHeld
 clear hw0
 refine tkH (i:=0) (oi:=⟨some 20,_,_,_,_,_⟩) (v:=.pointer (some ⟨g,0,none⟩)) rfl (Or.inl ⟨by rfl,fun W hW=>(by have:=HSB.out W hW;go_simp)⟩) (by assumption) ?_
 refine tkH (i:=1) (oi:=⟨some 21,_,_,_,_,_⟩) (v:=.pointer (some ⟨g,0,none⟩)) rfl (Or.inl ⟨by rfl,fun W hW=>(by have:=HSB.out W hW;go_simp)⟩) (by assumption) ?_
 refine tkH (i:=2) (oi:=⟨some 22,_,_,_,_,_⟩) (v:=.pointer (some ⟨g,0,none⟩)) rfl (Or.inl ⟨by rfl,fun W hW=>(by go_simp)⟩) (by assumption) ?_
 refine tkH (i:=3) (oi:=⟨some 23,_,_,_,_,_⟩) (v:=.pointer (some ⟨g,42,none⟩)) rfl (Or.inl ⟨by rfl,fun W hW=>(by go_simp)⟩) (by assumption) ?_
 refine tkH (i:=5) (oi:=⟨some 25,_,_,_,_,_⟩) (v:=.func (.func 55) #[] #[.pointer (some ⟨tb,0,none⟩)]) rfl (Or.inl ⟨by rfl,fun W hW=>(by go_simp)⟩) (by assumption) ?_
 refine wpAnyH_ready (rs:=[4]) (by kernel_rfl) (by simp) ?_
 refine AllReadyH.cons (o:=⟨some 24,_,_,_,_,_⟩) rfl (fun K hK=>?_) AllReadyH.nil
 rw[if_pos (by rfl)]
 have h42:=T0.out.cq
 obtain⟨n,hn⟩:∃n,n=lq.length:=⟨_,rfl⟩
 have HN:=zh hn
 rw[←hn]at h42
 have HDL:=zh (wdelete_ok qA n qc lq hn (fun e=>s.gone mx e.v) tb w0 (by rw[hn];exact T0.out.q) HP.out)
 obtain⟨lq',hlq⟩:∃lq',lq'=lq.filter fun e=>!s.gone mx e.v:=⟨_,rfl⟩
 have HLQ:=zh hlq
 rw[←hlq]at HDL
 clear hn hlq
 go_simp
 refine hK.out _ _ hHeld (fun hHeld=>?_)
 clear hK K h42
 try simp only[Act.put,List.setIfInBounds_toArray,List.set_cons_zero,List.set_cons_succ]
 refine wpAnyH_ready (rs:=[6]) (by kernel_rfl) (by simp) ?_
 refine AllReadyH.cons (o:=⟨some 26,_,_,_,_,_⟩) rfl (fun K hK=>?_) AllReadyH.nil
 rw[if_pos (by rfl)]
 go_simp
 refine(HDL.out).mono ?_
 rintro e wD ⟨rfl,hSD,hKD⟩
 dsimp only
 have SD:=zh hSD
 have KD:=zh hKD
 obtain⟨n',hn'⟩:∃n',n'=lq'.length:=⟨_,rfl⟩
 have HN':=zh hn'
 rw[←hn']
 have hg9:Blk wD g 66 _:=hKD.blk T0.out.blk (fun⟨a,ha,e⟩=>T0.out.gq a ha e)
 have hc43:wD.cell? ⟨g,42,none⟩=some (.slice qA lq.length qc):=(hg9.cell 42).trans (tArr_high s.C.arr_size 3)
 have hf43:=hg9.frozen 42
 refine hK.out _ _ (hHeld.trans hKD (fun j _ hj=>.inr hj)) (fun hHeld=>?_)
 clear hK K hSD hKD hn' hg9
 try simp only[Act.put,List.setIfInBounds_toArray,List.set_cons_zero,List.set_cons_succ]
 refine tkH (i:=7) (oi:=⟨some 27,_,_,_,_,_⟩) (v:=.pointer (some ⟨g,0,none⟩)) rfl (Or.inl ⟨by rfl,fun W hW=>(by go_simp)⟩) (by assumption) ?_
 refine tkH (i:=8) (oi:=⟨some 28,_,_,_,_,_⟩) (v:=.pointer (some ⟨g,42,none⟩)) rfl (Or.inl ⟨by rfl,fun W hW=>(by go_simp)⟩) (by assumption) ?_
 refine wpAnyH_ready (rs:=[9]) (by kernel_rfl) (by simp) ?_
 refine AllReadyH.cons (o:=⟨none,_,_,_,_,_⟩) rfl (fun K hK=>?_) AllReadyH.nil
 rw[if_pos (by rfl)]
 have hlen:lq'.length=n':=HN'.out.symm
 have TF:=T0.out.setQ (lq':=lq') (qA':=qA) (qc':=qc) (w1:=wD) KD.out (fun a ha=>.inl ⟨a,ha,rfl⟩) SD.out (fun e he=>(T0.out.qe e (by rw[HLQ.out]at he;exact(List.mem_filter.1 he).1)).keep KD.out (fun j ⟨a,ha,e2⟩ hr=>T0.out.dis j (by rw[e2];exact T0.out.wq a ha) hr))
 rw[hlen]at TF
 have HTF:=zh TF
 have hS9:KeepF (fun j=>j=g∨∃a,qA=some a∧j=a.block) V (wD.setCell ⟨g,42,none⟩ (.slice qA n' qc)):=hHeld.setCell (p:=⟨g,42,none⟩) (.inl rfl) _
 have HKF:=zh (KV.out.trans hS9 (fun k _ h=>by rcases h with h | ⟨a,ha,e⟩;rw[h];exact TV.out.wg;rw[e];exact TV.out.wq a ha))
 clear TF hlen
 go_simp
 refine hK.out _ _ hS9 (fun hHeld=>?_)
 clear hK K hS9
 try simp only[Act.put]
 refine wpAnyH_done (by kernel_rfl) ?_ _
 go_wp2
 go_ret
 refine⟨rfl,(fun k=>W k∨∃a,qA=some a∧k=a.block),R,⟨qA,qc,lq',pA,pc,lp,ub,cb,?_⟩,?_,fun k hr=>.inl hr,HKF.out⟩
 ·have hh:=HTF.out
  have e1:lq'.map (·.v)=(s.tick t).Q:=by
   rw[HLQ.out,filt_map,T0.out.qv,HMX.out,HNW.out];rfl
  have e2:s.tick t={ s with now:=mx,Q:=lq'.map (·.v) }:=by
   rw[e1,HMX.out,HNW.out];rfl
  rw[e2]
  exact hh
 ·rintro k (hk | ⟨a,ha,rfl⟩)
  ·exact .inl hk
  ·exact .inl (T0.out.wq a ha)
end Go.Proofs.YtjanmleoomoedaaGreat
namespace Go.Proofs.YtjanmleoomoedaaGreat
open Go.RowKit
set_option linter.unusedVariables false
attribute [local go_sem ↓] Go.wp_at_zero Go.wp_at_succ
theorem TxO.comp {W R W1 R1:Nat→Prop} {w w1 w2:World} {g:Nat} {s:TS} (hW:∀k,W1 k→W k∨w.heap.size≤k) (hR:∀k,R1 k→R k∨w.heap.size≤k) (hK:KeepF W w w1) (h:TxO W1 R1 w1 w2 g s):TxO W R w w2 g s:=by
 obtain⟨W2,R2,h1,h2,h3,h4⟩:=h
 have hs:=hK.size
 refine⟨W2,R2,h1,fun k hk=>?_,fun k hk=>?_,hK.trans h4 (fun b hb h=>?_)⟩
 ·rcases h2 k hk with h | h
  ·exact hW k h
  ·exact .inr (by omega)
 ·rcases h3 k hk with h | h
  ·exact hR k h
  ·exact .inr (by omega)
 ·rcases hW b h with h | h
  ·exact h
  ·omega
structure ArgB (w:World) (W:Nat→Prop) (A:Option Addr) (n:Nat) (z:Nat→Int):Prop where
 row:Row w w.heap.size A n (fun j=>.int .u8 (z j))
 byte:∀j,j < n→0≤z j∧z j < 256
 out:∀a,A=some a→n ≠ 0→¬W a.block
theorem ArgB.keep {w w1:World} {W W1:Nat→Prop} {A:Option Addr} {n:Nat} {z:Nat→Int} (h:ArgB w W A n z) (hk:KeepF W w w1) (hW:∀k,W1 k→W k∨w.heap.size≤k):ArgB w1 W1 A n z:=
 ⟨(hk.row h.row (Nat.le_refl _) h.out).more hk.size,h.byte,fun a e hn hw=>by
  obtain⟨b,off,e2,hb,_⟩:=h.row (by omega)
  rw[e2]at e
  cases e
  rcases hW _ hw with h1 | h1
  ·exact h.out _ e2 hn h1
  ·have:b < w.heap.size:=hb
   have:w.heap.size≤b:=h1
   omega⟩
set_option maxRecDepth 100000 in
set_option maxHeartbeats 1600000 in
theorem tsubmit_bad (g:Nat) (s:TS) (W R:Nat→Prop) (w:World) (h:TxI w g s W R) (hf:s.Fine) (t:Int) (ht1:-9223372036854775808≤t) (ht2:t≤9223372036854775807) (A:Option Addr) (n c:Nat) (z:Nat→Int) (ha:ArgB w W A n z) (hbad:1073741824≤t∨n=0∨9000 < n) (hn9:n≤1000000) :
  Calls Tryz.prog 15 #[.pointer (some ⟨g,0,none⟩),.int .i64 t,.slice A n c] w fun e w'=>e=.returned (.int .i64 (s.submit t n z).1)∧TxO W R w w' g (s.submit t n z).2:=by
 unfold TS.submit
 by_cases ct:1073741824≤t
 ·rw[if_pos ct]
  have HTK:=zh (ttick_ok g s W R w h hf t ht1 ht2)
  have HA:=zh ha
  have HF:=zh hf
  have n0:(0:Int)≤(n:Int):=by omega
  clear h hf ha
  go_enter Tryz.func15,Tryz.ntmps15
  rw[if_pos ct,if_pos ct]at HTK
  go_wp2_with (go_at_call 38;refine(HTK.out).mono ?_;rintro e w1 ⟨rfl,hO⟩;have HO:=zh hO;clear hO)
  go_ret
  exact⟨rfl,HO.out⟩
 rw[if_neg ct]
 by_cases cn:n=0
 ·rw[if_pos cn]
  have hz:(n:Int)=0:=by omega
  have HTK:=zh (ttick_ok g s W R w h hf t ht1 ht2)
  have HA:=zh ha
  have HF:=zh hf
  have n0:(0:Int)≤(n:Int):=by omega
  clear h hf ha
  go_enter Tryz.func15,Tryz.ntmps15
  rw[if_neg ct,if_neg ct]at HTK
  go_wp2_with (go_at_call 38;refine(HTK.out).mono ?_;rintro e w1 ⟨rfl,hO⟩;have HO:=zh hO;clear hO)
  go_ret
  exact⟨rfl,HO.out⟩
 rw[if_neg cn]
 have cl:9000 < n:=by omega
 rw[if_pos cl]
 have HTK:=zh (ttick_ok g s W R w h hf t ht1 ht2)
 have HA:=zh ha
 have HF:=zh hf
 have n0:(0:Int)≤(n:Int):=by omega
 clear h hf ha
 go_enter Tryz.func15,Tryz.ntmps15
 rw[if_neg ct,if_neg ct]at HTK
 have hl1:¬((n:Int)=0):=by omega
 have hl2:(9000:Int) < (n:Int):=by omega
 have hl3:(n:Int)≤9223372036854775807:=by omega
 go_wp2_with (go_at_call 38;refine(HTK.out).mono ?_;rintro e w1 ⟨rfl,hO⟩;have HO:=zh hO;clear hO)
 go_ret
 exact⟨rfl,HO.out⟩
set_option maxRecDepth 100000 in
set_option maxHeartbeats 1600000 in
theorem tsubmit_ok (g:Nat) (s:TS) (W R:Nat→Prop) (w:World) (h:TxI w g s W R) (hf:s.Fine) (hcm:s.C.cm=false) (hql:s.Q.length≤1000000) (t:Int) (ht1:-9223372036854775808≤t) (ht2:t≤9223372036854775807) (A:Option Addr) (n c:Nat) (z:Nat→Int) (ha:ArgB w W A n z) (hn9:n≤1000000) :
  Calls Tryz.prog 15 #[.pointer (some ⟨g,0,none⟩),.int .i64 t,.slice A n c] w fun e w'=>e=.returned (.int .i64 (s.submit t n z).1)∧TxO W R w w' g (s.submit t n z).2:=by
 by_cases hbad:1073741824≤t∨n=0∨9000 < n
 ·exact tsubmit_bad g s W R w h hf t ht1 ht2 A n c z ha hbad hn9
 have ct:¬1073741824≤t:=fun h=>hbad (.inl h)
 have cn:¬n=0:=fun h=>hbad (.inr (.inl h))
 have cl:¬9000 < n:=fun h=>hbad (.inr (.inr h))
 unfold TS.submit
 rw[if_neg ct,if_neg cn,if_neg cl]
 have HTK:=zh (ttick_ok g s W R w h hf t ht1 ht2)
 have HA:=zh ha
 have HF:=zh hf
 have n0:(0:Int)≤(n:Int):=by omega
 clear h hf ha
 go_enter Tryz.func15,Tryz.ntmps15
 rw[if_neg ct,if_neg ct]at HTK
 have HCM:=zh hcm
 have HQL:=zh (Nat.le_trans (s.tick_len t) hql)
 have HNP:Hid (1≤n∧n≤9000):=zh (by omega)
 have hl1:¬((n:Int)=0):=by omega
 have hl2:¬(9000:Int) < (n:Int):=by omega
 have hl3:(n:Int)≤9223372036854775807:=by omega
 clear hbad cn cl hcm hql
 obtain⟨s1,hs1⟩:∃s1,s1=s.tick t:=⟨_,rfl⟩
 have HC1:Hid (s1.C=s.C):=zh (by rw[hs1];rfl)
 have HNOW:Hid (s1.now=max s.now t):=zh (by rw[hs1];rfl)
 rw[←hs1]at HTK HQL ⊢
 clear hs1
 go_upto_region 8 with (go_at_call 38;refine(HTK.out).mono ?_;rintro e w1 ⟨rfl,hO⟩;have HO:=zh hO;clear hO)
 obtain⟨W1,R1,hI1,hW1,hR1,hK1⟩:=HO.out
 obtain⟨qA,qc,lq,pA,pc,lp,ub,cb,hT1⟩:=hI1
 have T1:=zh hT1
 have HW1:=zh hW1
 have HR1:=zh hR1
 have HK1:=zh hK1
 have A1:=zh (HA.out.keep hK1 hW1)
 have c35:w1.cell? ⟨g,35,none⟩=some (.bool false):=(hT1.cC (j:=35) (by decide)).trans (by rw[show s1.C.cell 35=.bool s1.C.cm from rfl,HC1.out,HCM.out])
 clear hT1 hW1 hR1 hK1
 go_upto_region 12 with (fail)
 have hgl:=T1.out.blk.lt
 obtain⟨w0,hw0⟩:∃w0,w0=w1.drew:=⟨_,rfl⟩
 have hb0:Below w1.heap.size w1 w0:=by rw[hw0];exact(Below.refl _ _).drew
 have T0:TxM w0 g s1 W1 R1 qA qc lq pA pc lp ub cb:=T1.out.below hb0
 have A0:=A1.out.keep (KeepF.of_below (F:=W1) hb0) (fun k hk=>.inl hk)
 obtain⟨iw,hiw,hiwz,hiws,hiwb⟩:=infoWait
 have cnow:=T0.cnow
 obtain⟨mx,hmx⟩:∃mx,mx=s1.now:=⟨_,rfl⟩
 have HMX:=zh hmx
 rw[←hmx]at cnow
 refine wp_region_held_drew (S:=fun w'=>KeepF (fun j=>j=g∨∃a,qA=some a∧j=a.block) w1 w'∧w'.cell? ⟨g,40,none⟩=some (.int .i64 mx)) (by kernel_rfl) ⟨(KeepF.refl (w:=w1)).drew,by rw[←hw0];exact cnow⟩ (fun hHeld=>?_)
 rw[←hw0]
 rw[←hw0]at hHeld
 clear hw0 cnow hmx c35
 obtain⟨ql,hql⟩:∃ql,ql=lq.length:=⟨_,rfl⟩
 have HPL:=zh hql
 have HQ6:Hid (ql≤1000000):=zh (by rw[hql];have hq:=congrArg List.length T0.qv;have:=HQL.out;rw[List.length_map]at hq;omega)
 clear hql
 refine tkH (i:=0) (oi:=⟨some 33,_,_,_,_,_⟩) (v:=.pointer (some ⟨g,0,none⟩)) rfl (Or.inl ⟨by rfl,fun W hW=>(by rfl)⟩) (by assumption) ?_
 refine tkH (i:=1) (oi:=⟨some 34,_,_,_,_,_⟩) (v:=.pointer (some ⟨g,0,none⟩)) rfl (Or.inl ⟨by rfl,fun W hW=>(by rfl)⟩) (by assumption) ?_
 refine tkH (i:=2) (oi:=⟨some 35,_,_,_,_,_⟩) (v:=.pointer (some ⟨g,0,none⟩)) rfl (Or.inl ⟨by rfl,fun W hW=>(by go_simp)⟩) (by assumption) ?_
 refine tkH (i:=3) (oi:=⟨some 36,_,_,_,_,_⟩) (v:=.pointer (some ⟨g,42,none⟩)) rfl (Or.inl ⟨by rfl,fun W hW=>(by go_simp)⟩) (by assumption) ?_
 refine tkH (i:=5) (oi:=⟨some 38,_,_,_,_,_⟩) (v:=.slice A n c) rfl (Or.inl ⟨by rfl,fun W hW=>(by rfl)⟩) (by assumption) ?_
 refine tkH (i:=7) (oi:=⟨some 40,_,_,_,_,_⟩) (v:=.pointer (some ⟨g,0,none⟩)) rfl (Or.inl ⟨by rfl,fun W hW=>(by rfl)⟩) (by assumption) ?_
 refine tkH (i:=8) (oi:=⟨some 41,_,_,_,_,_⟩) (v:=.pointer (some ⟨g,0,none⟩)) rfl (Or.inl ⟨by rfl,fun W hW=>(by go_simp)⟩) (by assumption) ?_
 refine tkH (i:=9) (oi:=⟨some 42,_,_,_,_,_⟩) (v:=.pointer (some ⟨g,40,none⟩)) rfl (Or.inl ⟨by rfl,fun W hW=>(by go_simp)⟩) (by assumption) ?_
 refine tkH (i:=10) (oi:=⟨some 43,_,_,_,_,_⟩) (v:=.int .i64 mx) rfl (Or.inl ⟨by rfl,fun W hW=>(by have:=hW.2;go_simp)⟩) (by assumption) ?_
 refine wpAnyH_ready (rs:=[4,6]) (by kernel_rfl) (by simp) ?_
 refine AllReadyH.cons (o:=⟨some 37,_,_,_,_,_⟩) rfl (fun K hK=>?_) (AllReadyH.cons (o:=⟨some 39,_,_,_,_,_⟩) rfl (fun K hK=>?_) AllReadyH.nil)
 ·skip
  rw[if_pos (by rfl)]
  have h43:=T0.cq
  rw[←HPL.out]at h43
  go_simp
  refine hK.out _ _ hHeld (fun hHeld=>?_)
  clear hK K h43
  try simp only[Act.put,List.setIfInBounds_toArray,List.set_cons_zero,List.set_cons_succ]
  refine wpAnyH_ready (rs:=[6]) (by kernel_rfl) (by simp) ?_
  refine AllReadyH.cons (o:=⟨some 39,_,_,_,_,_⟩) rfl (fun K hK=>?_) AllReadyH.nil
  rw[if_pos (by rfl)]
  go_simp
  refine(clone_any A n c z w0 (by omega) A0.row).mono ?_
  rintro e w1' ⟨A2,c2',rfl,hc2,hR2,hF2,hbk⟩
  dsimp only
  have hFl:∀a,A2=some a→w0.heap.size≤a.block:=hF2
  have hFr:∀a,A2=some a→a.block < w1'.heap.size:=fun a e=>row_lt hR2 HNP.out.1 e
  have hwl1:∀j,W1 j→j < w0.heap.size:=T0.win
  have U1:=T0.below hbk
  have hb1:Below w1.heap.size w1 w1':=hb0.trans (hbk.mono hb0.size)
  have hW2:∀j,W1 j→∀a,A2=some a→j ≠ a.block:=fun j hj a e=>by have:=hFl a e;have:=hwl1 j hj;omega
  refine hK.out _ _ ⟨hHeld.1.more hbk,(hbk.cell (p:=⟨g,40,none⟩) T0.blk.lt).trans hHeld.2⟩ (fun hHeld=>?_)
  clear hK K hbk hF2
  try simp only[Act.put,List.setIfInBounds_toArray,List.set_cons_zero,List.set_cons_succ]
  refine tkH (i:=11) (oi:=⟨some 44,_,_,_,_,_⟩) (v:=.agg #[.slice A2 n c2',.int .i64 mx]) rfl (Or.inl ⟨by rfl,fun W hW=>(by go_simp)⟩) (by assumption) ?_
  refine wpAnyH_ready (rs:=[12]) (by kernel_rfl) (by simp) ?_
  refine AllReadyH.cons (o:=⟨some 45,_,_,_,_,_⟩) rfl (fun K hK=>?_) AllReadyH.nil
  rw[if_pos (by rfl)]
  go_simp
  obtain⟨w2',hv⟩:∃X,X=w1'.alloc (.cells #[.slice A2 n c2',.int .i64 mx] 71):=⟨_,rfl⟩
  obtain⟨nb,hnb⟩:∃nb,nb=w1'.heap.size:=⟨_,rfl⟩
  have hbk:Below w1'.heap.size w1' w2':=by rw[hv];exact(Below.refl _ _).alloc (Nat.le_refl _) _
  have hNB:Blk w2' nb 71 #[.slice A2 n c2',.int .i64 mx]:=by rw[hv,hnb];exact Blk.new _ _ _
  have T2:=U1.below hbk
  have hb2:Below w1.heap.size w1 w2':=hb1.trans (hbk.mono hb1.size)
  replace hR2:=hR2.next hbk
  replace hFr:∀a,A2=some a→a.block < w2'.heap.size:=fun a e=>Nat.lt_of_lt_of_le (hFr a e) hbk.size
  rw[←hv,←hnb]
  refine hK.out _ _ ⟨hHeld.1.more hbk,(hbk.cell (p:=⟨g,40,none⟩) U1.blk.lt).trans hHeld.2⟩ (fun hHeld=>?_)
  clear hK K hbk hv hnb
  try simp only[Act.put,List.setIfInBounds_toArray,List.set_cons_zero,List.set_cons_succ]
  refine wpAnyH_ready (rs:=[13]) (by kernel_rfl) (by simp) ?_
  refine AllReadyH.cons (o:=⟨some 46,_,_,_,_,_⟩) rfl (fun K hK=>?_) AllReadyH.nil
  rw[if_pos (by rfl)]
  have hSL:=T2.q
  rw[←HPL.out]at hSL
  refine wp_sl_append _ _ _ _ rfl w2' 71 iw (.agg #[.slice none 0 0,.int .i64 0]) 2 32 Tryz.underlying63 hiw hiwz hiws hiwb rfl qA ql qc (lq.flatMap WE.cells) rfl hSL _ rfl 1 [.slice A2 n c2',.int .i64 mx] (Src.ofSlice _ Tryz.underlying63 ⟨nb,0,none⟩ 1 1 _ rfl (fun j u hu=>by
    have hj:j < 2:=(List.getElem?_eq_some_iff.1 hu).1
    rw[Addr.add_lit,Nat.zero_add,hNB.cell j]
    simpa using hu) (by simp[Value.oneCell'])) (by decide) (by unfold maxLen;have:=HQ6.out;omega) (by have:=HQ6.out;omega) ?_
  intro A9 c9 wA hSL9 hK9 hA9
  dsimp only
  have hA9n:∀a,A9=some a→(∃a',qA=some a'∧a.block=a'.block)∨w2'.heap.size≤a.block:=hA9
  refine hK.out _ _ ⟨hHeld.1.trans hK9 (fun j _ hj=>.inr hj),(hK9.cell (p:=⟨g,40,none⟩) T2.blk.lt (fun⟨a,ha,e⟩=>T2.gq a ha e)).trans hHeld.2⟩ (fun hHeld=>?_)
  clear hK K
  try simp only[Act.put,List.setIfInBounds_toArray,List.set_cons_zero,List.set_cons_succ]
  refine tkH (i:=14) (oi:=⟨some 47,_,_,_,_,_⟩) (v:=.pointer (some ⟨g,0,none⟩)) rfl (Or.inl ⟨by rfl,fun W hW=>(by go_simp)⟩) (by assumption) ?_
  refine tkH (i:=15) (oi:=⟨some 48,_,_,_,_,_⟩) (v:=.pointer (some ⟨g,42,none⟩)) rfl (Or.inl ⟨by rfl,fun W hW=>(by go_simp)⟩) (by assumption) ?_
  refine wpAnyH_ready (rs:=[16]) (by kernel_rfl) (by simp) ?_
  refine AllReadyH.cons (o:=⟨none,_,_,_,_,_⟩) rfl (fun K hK=>?_) AllReadyH.nil
  rw[if_pos (by rfl)]
  have hg9:Blk wA g 66 _:=hK9.blk T2.blk (fun⟨a,ha,e⟩=>T2.gq a ha e)
  have hc43:wA.cell? ⟨g,42,none⟩=some (.slice qA lq.length qc):=(hg9.cell 42).trans (tArr_high s1.C.arr_size 3)
  have hf43:=hg9.frozen 42
  have T9:=T2.moreR (R':=fun j=>R1 j∨∃a,A2=some a∧j=a.block) (fun j hj=>.inl hj) (fun j hw hr=>by rcases hr with hr | ⟨a,ha,e⟩;exact T2.dis j hw hr;exact hW2 j hw a ha e) (fun j hr=>by rcases hr with hr | ⟨a,ha,e⟩;exact T2.rin j hr;(rw[e];exact hFr a ha))
  have hpk9:∀e:WE,e∈lq++[(⟨⟨n,z,mx⟩,A2,c2'⟩:WE)]→Pkt wA (fun j=>R1 j∨∃a,A2=some a∧j=a.block) e.A e.v.n e.c e.v.z:=fun e he=>by
   have hx:Pkt w2' (fun j=>R1 j∨∃a,A2=some a∧j=a.block) e.A e.v.n e.c e.v.z:=by
    rcases List.mem_append.1 he with he | he
    ·exact T9.qe e he
    ·have:e=(⟨⟨n,z,mx⟩,A2,c2'⟩:WE):=by simpa using he
     rw[this]
     exact Pkt.of_clone HNP.out.1 HNP.out.2 hc2 A0.byte hR2
   exact hx.keep hK9 (fun j ⟨a,ha,e2⟩ hr=>T9.dis j (by rw[e2];exact T9.wq a ha) hr)
  have hlen9:(lq++[(⟨⟨n,z,mx⟩,A2,c2'⟩:WE)]).length=ql+1:=by rw[List.length_append,HPL.out];rfl
  have hSL9':SL wA 71 2 A9 (lq++[(⟨⟨n,z,mx⟩,A2,c2'⟩:WE)]).length c9 ((lq++[(⟨⟨n,z,mx⟩,A2,c2'⟩:WE)]).flatMap WE.cells):=by
   rw[hlen9,List.flatMap_append]
   exact hSL9
  have TF:=T9.setQ hK9 hA9n hSL9' hpk9
  rw[hlen9,List.map_append,T2.qv]at TF
  have HTF:=zh TF
  have hS9:KeepF (fun j=>j=g∨∃a,qA=some a∧j=a.block) w1 (wA.setCell ⟨g,42,none⟩ (.slice A9 (ql+1) c9)):=hHeld.1.setCell (p:=⟨g,42,none⟩) (.inl rfl) _
  have hS40:(wA.setCell ⟨g,42,none⟩ (.slice A9 (ql+1) c9)).cell? ⟨g,40,none⟩=some (.int .i64 mx):=by rw[HTF.out.cnow,HMX.out]
  have HKF:=zh (hS9.mono (G:=W1) (fun k h=>by rcases h with h | ⟨a,ha,e⟩;rw[h];exact T2.wg;rw[e];exact T2.wq a ha))
  have HWF:=zh (show ∀k,(W1 k∨∃a,A9=some a∧k=a.block)→W1 k∨w1.heap.size≤k from fun k hk=>by
   rcases hk with hk | ⟨a,ha,e⟩
   ·exact .inl hk
   ·rcases hA9n a ha with ⟨a',ha',e'⟩ | hge
    ·exact .inl (by rw[e,e'];exact T2.wq a' ha')
    ·exact .inr (by have:=hb2.size;omega))
  have HRF:=zh (show ∀k,(R1 k∨∃a,A2=some a∧k=a.block)→R1 k∨w1.heap.size≤k from fun k hk=>by
   rcases hk with hk | ⟨a,ha,e⟩
   ·exact .inl hk
   ·exact .inr (by have:=hFl a ha;have:=hb0.size;omega))
  clear TF hSL9 hSL9' hpk9 hK9 hA9 hA9n T9 hg9 hSL
  go_simp
  refine hK.out _ _ ⟨hS9,hS40⟩ (fun hHeld=>?_)
  clear hK K hS9 hS40
  try simp only[Act.put]
  refine wpAnyH_done (by kernel_rfl) ?_ _
  go_wp2
  go_ret
  refine⟨rfl,TxO.comp HW1.out HR1.out HK1.out ⟨_,_,⟨A9,c9,lq++[(⟨⟨n,z,mx⟩,A2,c2'⟩:WE)],pA,pc,lp,ub,cb,?_⟩,HWF.out,HRF.out,HKF.out⟩⟩
  ·exact(by
    have hh:=HTF.out
    rw[show max s.now t=mx from by rw[HMX.out,HNOW.out]]
    exact hh)
 ·skip
  rw[if_pos (by rfl)]
  go_simp
  refine(clone_any A n c z w0 (by omega) A0.row).mono ?_
  rintro e w1' ⟨A2,c2',rfl,hc2,hR2,hF2,hbk⟩
  dsimp only
  have hFl:∀a,A2=some a→w0.heap.size≤a.block:=hF2
  have hFr:∀a,A2=some a→a.block < w1'.heap.size:=fun a e=>row_lt hR2 HNP.out.1 e
  have hwl1:∀j,W1 j→j < w0.heap.size:=T0.win
  have U1:=T0.below hbk
  have hb1:Below w1.heap.size w1 w1':=hb0.trans (hbk.mono hb0.size)
  have hW2:∀j,W1 j→∀a,A2=some a→j ≠ a.block:=fun j hj a e=>by have:=hFl a e;have:=hwl1 j hj;omega
  refine hK.out _ _ ⟨hHeld.1.more hbk,(hbk.cell (p:=⟨g,40,none⟩) T0.blk.lt).trans hHeld.2⟩ (fun hHeld=>?_)
  clear hK K hbk hF2
  try simp only[Act.put,List.setIfInBounds_toArray,List.set_cons_zero,List.set_cons_succ]
  refine tkH (i:=11) (oi:=⟨some 44,_,_,_,_,_⟩) (v:=.agg #[.slice A2 n c2',.int .i64 mx]) rfl (Or.inl ⟨by rfl,fun W hW=>(by go_simp)⟩) (by assumption) ?_
  refine wpAnyH_ready (rs:=[4,12]) (by kernel_rfl) (by simp) ?_
  refine AllReadyH.cons (o:=⟨some 37,_,_,_,_,_⟩) rfl (fun K hK=>?_) (AllReadyH.cons (o:=⟨some 45,_,_,_,_,_⟩) rfl (fun K hK=>?_) AllReadyH.nil)
  ·skip
   rw[if_pos (by rfl)]
   have h43:=U1.cq
   rw[←HPL.out]at h43
   go_simp
   refine hK.out _ _ hHeld (fun hHeld=>?_)
   clear hK K h43
   try simp only[Act.put,List.setIfInBounds_toArray,List.set_cons_zero,List.set_cons_succ]
   refine wpAnyH_ready (rs:=[12]) (by kernel_rfl) (by simp) ?_
   refine AllReadyH.cons (o:=⟨some 45,_,_,_,_,_⟩) rfl (fun K hK=>?_) AllReadyH.nil
   rw[if_pos (by rfl)]
   go_simp
   obtain⟨w2',hv⟩:∃X,X=w1'.alloc (.cells #[.slice A2 n c2',.int .i64 mx] 71):=⟨_,rfl⟩
   obtain⟨nb,hnb⟩:∃nb,nb=w1'.heap.size:=⟨_,rfl⟩
   have hbk:Below w1'.heap.size w1' w2':=by rw[hv];exact(Below.refl _ _).alloc (Nat.le_refl _) _
   have hNB:Blk w2' nb 71 #[.slice A2 n c2',.int .i64 mx]:=by rw[hv,hnb];exact Blk.new _ _ _
   have T2:=U1.below hbk
   have hb2:Below w1.heap.size w1 w2':=hb1.trans (hbk.mono hb1.size)
   replace hR2:=hR2.next hbk
   replace hFr:∀a,A2=some a→a.block < w2'.heap.size:=fun a e=>Nat.lt_of_lt_of_le (hFr a e) hbk.size
   rw[←hv,←hnb]
   refine hK.out _ _ ⟨hHeld.1.more hbk,(hbk.cell (p:=⟨g,40,none⟩) U1.blk.lt).trans hHeld.2⟩ (fun hHeld=>?_)
   clear hK K hbk hv hnb
   try simp only[Act.put,List.setIfInBounds_toArray,List.set_cons_zero,List.set_cons_succ]
   refine wpAnyH_ready (rs:=[13]) (by kernel_rfl) (by simp) ?_
   refine AllReadyH.cons (o:=⟨some 46,_,_,_,_,_⟩) rfl (fun K hK=>?_) AllReadyH.nil
   rw[if_pos (by rfl)]
   have hSL:=T2.q
   rw[←HPL.out]at hSL
   refine wp_sl_append _ _ _ _ rfl w2' 71 iw (.agg #[.slice none 0 0,.int .i64 0]) 2 32 Tryz.underlying63 hiw hiwz hiws hiwb rfl qA ql qc (lq.flatMap WE.cells) rfl hSL _ rfl 1 [.slice A2 n c2',.int .i64 mx] (Src.ofSlice _ Tryz.underlying63 ⟨nb,0,none⟩ 1 1 _ rfl (fun j u hu=>by
     have hj:j < 2:=(List.getElem?_eq_some_iff.1 hu).1
     rw[Addr.add_lit,Nat.zero_add,hNB.cell j]
     simpa using hu) (by simp[Value.oneCell'])) (by decide) (by unfold maxLen;have:=HQ6.out;omega) (by have:=HQ6.out;omega) ?_
   intro A9 c9 wA hSL9 hK9 hA9
   dsimp only
   have hA9n:∀a,A9=some a→(∃a',qA=some a'∧a.block=a'.block)∨w2'.heap.size≤a.block:=hA9
   refine hK.out _ _ ⟨hHeld.1.trans hK9 (fun j _ hj=>.inr hj),(hK9.cell (p:=⟨g,40,none⟩) T2.blk.lt (fun⟨a,ha,e⟩=>T2.gq a ha e)).trans hHeld.2⟩ (fun hHeld=>?_)
   clear hK K
   try simp only[Act.put,List.setIfInBounds_toArray,List.set_cons_zero,List.set_cons_succ]
   refine tkH (i:=14) (oi:=⟨some 47,_,_,_,_,_⟩) (v:=.pointer (some ⟨g,0,none⟩)) rfl (Or.inl ⟨by rfl,fun W hW=>(by go_simp)⟩) (by assumption) ?_
   refine tkH (i:=15) (oi:=⟨some 48,_,_,_,_,_⟩) (v:=.pointer (some ⟨g,42,none⟩)) rfl (Or.inl ⟨by rfl,fun W hW=>(by go_simp)⟩) (by assumption) ?_
   refine wpAnyH_ready (rs:=[16]) (by kernel_rfl) (by simp) ?_
   refine AllReadyH.cons (o:=⟨none,_,_,_,_,_⟩) rfl (fun K hK=>?_) AllReadyH.nil
   rw[if_pos (by rfl)]
   have hg9:Blk wA g 66 _:=hK9.blk T2.blk (fun⟨a,ha,e⟩=>T2.gq a ha e)
   have hc43:wA.cell? ⟨g,42,none⟩=some (.slice qA lq.length qc):=(hg9.cell 42).trans (tArr_high s1.C.arr_size 3)
   have hf43:=hg9.frozen 42
   have T9:=T2.moreR (R':=fun j=>R1 j∨∃a,A2=some a∧j=a.block) (fun j hj=>.inl hj) (fun j hw hr=>by rcases hr with hr | ⟨a,ha,e⟩;exact T2.dis j hw hr;exact hW2 j hw a ha e) (fun j hr=>by rcases hr with hr | ⟨a,ha,e⟩;exact T2.rin j hr;(rw[e];exact hFr a ha))
   have hpk9:∀e:WE,e∈lq++[(⟨⟨n,z,mx⟩,A2,c2'⟩:WE)]→Pkt wA (fun j=>R1 j∨∃a,A2=some a∧j=a.block) e.A e.v.n e.c e.v.z:=fun e he=>by
    have hx:Pkt w2' (fun j=>R1 j∨∃a,A2=some a∧j=a.block) e.A e.v.n e.c e.v.z:=by
     rcases List.mem_append.1 he with he | he
     ·exact T9.qe e he
     ·have:e=(⟨⟨n,z,mx⟩,A2,c2'⟩:WE):=by simpa using he
      rw[this]
      exact Pkt.of_clone HNP.out.1 HNP.out.2 hc2 A0.byte hR2
    exact hx.keep hK9 (fun j ⟨a,ha,e2⟩ hr=>T9.dis j (by rw[e2];exact T9.wq a ha) hr)
   have hlen9:(lq++[(⟨⟨n,z,mx⟩,A2,c2'⟩:WE)]).length=ql+1:=by rw[List.length_append,HPL.out];rfl
   have hSL9':SL wA 71 2 A9 (lq++[(⟨⟨n,z,mx⟩,A2,c2'⟩:WE)]).length c9 ((lq++[(⟨⟨n,z,mx⟩,A2,c2'⟩:WE)]).flatMap WE.cells):=by
    rw[hlen9,List.flatMap_append]
    exact hSL9
   have TF:=T9.setQ hK9 hA9n hSL9' hpk9
   rw[hlen9,List.map_append,T2.qv]at TF
   have HTF:=zh TF
   have hS9:KeepF (fun j=>j=g∨∃a,qA=some a∧j=a.block) w1 (wA.setCell ⟨g,42,none⟩ (.slice A9 (ql+1) c9)):=hHeld.1.setCell (p:=⟨g,42,none⟩) (.inl rfl) _
   have hS40:(wA.setCell ⟨g,42,none⟩ (.slice A9 (ql+1) c9)).cell? ⟨g,40,none⟩=some (.int .i64 mx):=by rw[HTF.out.cnow,HMX.out]
   have HKF:=zh (hS9.mono (G:=W1) (fun k h=>by rcases h with h | ⟨a,ha,e⟩;rw[h];exact T2.wg;rw[e];exact T2.wq a ha))
   have HWF:=zh (show ∀k,(W1 k∨∃a,A9=some a∧k=a.block)→W1 k∨w1.heap.size≤k from fun k hk=>by
    rcases hk with hk | ⟨a,ha,e⟩
    ·exact .inl hk
    ·rcases hA9n a ha with ⟨a',ha',e'⟩ | hge
     ·exact .inl (by rw[e,e'];exact T2.wq a' ha')
     ·exact .inr (by have:=hb2.size;omega))
   have HRF:=zh (show ∀k,(R1 k∨∃a,A2=some a∧k=a.block)→R1 k∨w1.heap.size≤k from fun k hk=>by
    rcases hk with hk | ⟨a,ha,e⟩
    ·exact .inl hk
    ·exact .inr (by have:=hFl a ha;have:=hb0.size;omega))
   clear TF hSL9 hSL9' hpk9 hK9 hA9 hA9n T9 hg9 hSL
   go_simp
   refine hK.out _ _ ⟨hS9,hS40⟩ (fun hHeld=>?_)
   clear hK K hS9 hS40
   try simp only[Act.put]
   refine wpAnyH_done (by kernel_rfl) ?_ _
   go_wp2
   go_ret
   refine⟨rfl,TxO.comp HW1.out HR1.out HK1.out ⟨_,_,⟨A9,c9,lq++[(⟨⟨n,z,mx⟩,A2,c2'⟩:WE)],pA,pc,lp,ub,cb,?_⟩,HWF.out,HRF.out,HKF.out⟩⟩
   ·exact(by
     have hh:=HTF.out
     rw[show max s.now t=mx from by rw[HMX.out,HNOW.out]]
     exact hh)
  ·skip
   rw[if_pos (by rfl)]
   go_simp
   obtain⟨w2',hv⟩:∃X,X=w1'.alloc (.cells #[.slice A2 n c2',.int .i64 mx] 71):=⟨_,rfl⟩
   obtain⟨nb,hnb⟩:∃nb,nb=w1'.heap.size:=⟨_,rfl⟩
   have hbk:Below w1'.heap.size w1' w2':=by rw[hv];exact(Below.refl _ _).alloc (Nat.le_refl _) _
   have hNB:Blk w2' nb 71 #[.slice A2 n c2',.int .i64 mx]:=by rw[hv,hnb];exact Blk.new _ _ _
   have T2:=U1.below hbk
   have hb2:Below w1.heap.size w1 w2':=hb1.trans (hbk.mono hb1.size)
   replace hR2:=hR2.next hbk
   replace hFr:∀a,A2=some a→a.block < w2'.heap.size:=fun a e=>Nat.lt_of_lt_of_le (hFr a e) hbk.size
   rw[←hv,←hnb]
   refine hK.out _ _ ⟨hHeld.1.more hbk,(hbk.cell (p:=⟨g,40,none⟩) U1.blk.lt).trans hHeld.2⟩ (fun hHeld=>?_)
   clear hK K hbk hv hnb
   try simp only[Act.put,List.setIfInBounds_toArray,List.set_cons_zero,List.set_cons_succ]
   refine wpAnyH_ready (rs:=[4]) (by kernel_rfl) (by simp) ?_
   refine AllReadyH.cons (o:=⟨some 37,_,_,_,_,_⟩) rfl (fun K hK=>?_) AllReadyH.nil
   rw[if_pos (by rfl)]
   have h43:=T2.cq
   rw[←HPL.out]at h43
   go_simp
   refine hK.out _ _ hHeld (fun hHeld=>?_)
   clear hK K h43
   try simp only[Act.put,List.setIfInBounds_toArray,List.set_cons_zero,List.set_cons_succ]
   refine wpAnyH_ready (rs:=[13]) (by kernel_rfl) (by simp) ?_
   refine AllReadyH.cons (o:=⟨some 46,_,_,_,_,_⟩) rfl (fun K hK=>?_) AllReadyH.nil
   rw[if_pos (by rfl)]
   have hSL:=T2.q
   rw[←HPL.out]at hSL
   refine wp_sl_append _ _ _ _ rfl w2' 71 iw (.agg #[.slice none 0 0,.int .i64 0]) 2 32 Tryz.underlying63 hiw hiwz hiws hiwb rfl qA ql qc (lq.flatMap WE.cells) rfl hSL _ rfl 1 [.slice A2 n c2',.int .i64 mx] (Src.ofSlice _ Tryz.underlying63 ⟨nb,0,none⟩ 1 1 _ rfl (fun j u hu=>by
     have hj:j < 2:=(List.getElem?_eq_some_iff.1 hu).1
     rw[Addr.add_lit,Nat.zero_add,hNB.cell j]
     simpa using hu) (by simp[Value.oneCell'])) (by decide) (by unfold maxLen;have:=HQ6.out;omega) (by have:=HQ6.out;omega) ?_
   intro A9 c9 wA hSL9 hK9 hA9
   dsimp only
   have hA9n:∀a,A9=some a→(∃a',qA=some a'∧a.block=a'.block)∨w2'.heap.size≤a.block:=hA9
   refine hK.out _ _ ⟨hHeld.1.trans hK9 (fun j _ hj=>.inr hj),(hK9.cell (p:=⟨g,40,none⟩) T2.blk.lt (fun⟨a,ha,e⟩=>T2.gq a ha e)).trans hHeld.2⟩ (fun hHeld=>?_)
   clear hK K
   try simp only[Act.put,List.setIfInBounds_toArray,List.set_cons_zero,List.set_cons_succ]
   refine tkH (i:=14) (oi:=⟨some 47,_,_,_,_,_⟩) (v:=.pointer (some ⟨g,0,none⟩)) rfl (Or.inl ⟨by rfl,fun W hW=>(by go_simp)⟩) (by assumption) ?_
   refine tkH (i:=15) (oi:=⟨some 48,_,_,_,_,_⟩) (v:=.pointer (some ⟨g,42,none⟩)) rfl (Or.inl ⟨by rfl,fun W hW=>(by go_simp)⟩) (by assumption) ?_
   refine wpAnyH_ready (rs:=[16]) (by kernel_rfl) (by simp) ?_
   refine AllReadyH.cons (o:=⟨none,_,_,_,_,_⟩) rfl (fun K hK=>?_) AllReadyH.nil
   rw[if_pos (by rfl)]
   have hg9:Blk wA g 66 _:=hK9.blk T2.blk (fun⟨a,ha,e⟩=>T2.gq a ha e)
   have hc43:wA.cell? ⟨g,42,none⟩=some (.slice qA lq.length qc):=(hg9.cell 42).trans (tArr_high s1.C.arr_size 3)
   have hf43:=hg9.frozen 42
   have T9:=T2.moreR (R':=fun j=>R1 j∨∃a,A2=some a∧j=a.block) (fun j hj=>.inl hj) (fun j hw hr=>by rcases hr with hr | ⟨a,ha,e⟩;exact T2.dis j hw hr;exact hW2 j hw a ha e) (fun j hr=>by rcases hr with hr | ⟨a,ha,e⟩;exact T2.rin j hr;(rw[e];exact hFr a ha))
   have hpk9:∀e:WE,e∈lq++[(⟨⟨n,z,mx⟩,A2,c2'⟩:WE)]→Pkt wA (fun j=>R1 j∨∃a,A2=some a∧j=a.block) e.A e.v.n e.c e.v.z:=fun e he=>by
    have hx:Pkt w2' (fun j=>R1 j∨∃a,A2=some a∧j=a.block) e.A e.v.n e.c e.v.z:=by
     rcases List.mem_append.1 he with he | he
     ·exact T9.qe e he
     ·have:e=(⟨⟨n,z,mx⟩,A2,c2'⟩:WE):=by simpa using he
      rw[this]
      exact Pkt.of_clone HNP.out.1 HNP.out.2 hc2 A0.byte hR2
    exact hx.keep hK9 (fun j ⟨a,ha,e2⟩ hr=>T9.dis j (by rw[e2];exact T9.wq a ha) hr)
   have hlen9:(lq++[(⟨⟨n,z,mx⟩,A2,c2'⟩:WE)]).length=ql+1:=by rw[List.length_append,HPL.out];rfl
   have hSL9':SL wA 71 2 A9 (lq++[(⟨⟨n,z,mx⟩,A2,c2'⟩:WE)]).length c9 ((lq++[(⟨⟨n,z,mx⟩,A2,c2'⟩:WE)]).flatMap WE.cells):=by
    rw[hlen9,List.flatMap_append]
    exact hSL9
   have TF:=T9.setQ hK9 hA9n hSL9' hpk9
   rw[hlen9,List.map_append,T2.qv]at TF
   have HTF:=zh TF
   have hS9:KeepF (fun j=>j=g∨∃a,qA=some a∧j=a.block) w1 (wA.setCell ⟨g,42,none⟩ (.slice A9 (ql+1) c9)):=hHeld.1.setCell (p:=⟨g,42,none⟩) (.inl rfl) _
   have hS40:(wA.setCell ⟨g,42,none⟩ (.slice A9 (ql+1) c9)).cell? ⟨g,40,none⟩=some (.int .i64 mx):=by rw[HTF.out.cnow,HMX.out]
   have HKF:=zh (hS9.mono (G:=W1) (fun k h=>by rcases h with h | ⟨a,ha,e⟩;rw[h];exact T2.wg;rw[e];exact T2.wq a ha))
   have HWF:=zh (show ∀k,(W1 k∨∃a,A9=some a∧k=a.block)→W1 k∨w1.heap.size≤k from fun k hk=>by
    rcases hk with hk | ⟨a,ha,e⟩
    ·exact .inl hk
    ·rcases hA9n a ha with ⟨a',ha',e'⟩ | hge
     ·exact .inl (by rw[e,e'];exact T2.wq a' ha')
     ·exact .inr (by have:=hb2.size;omega))
   have HRF:=zh (show ∀k,(R1 k∨∃a,A2=some a∧k=a.block)→R1 k∨w1.heap.size≤k from fun k hk=>by
    rcases hk with hk | ⟨a,ha,e⟩
    ·exact .inl hk
    ·exact .inr (by have:=hFl a ha;have:=hb0.size;omega))
   clear TF hSL9 hSL9' hpk9 hK9 hA9 hA9n T9 hg9 hSL
   go_simp
   refine hK.out _ _ ⟨hS9,hS40⟩ (fun hHeld=>?_)
   clear hK K hS9 hS40
   try simp only[Act.put]
   refine wpAnyH_done (by kernel_rfl) ?_ _
   go_wp2
   go_ret
   refine⟨rfl,TxO.comp HW1.out HR1.out HK1.out ⟨_,_,⟨A9,c9,lq++[(⟨⟨n,z,mx⟩,A2,c2'⟩:WE)],pA,pc,lp,ub,cb,?_⟩,HWF.out,HRF.out,HKF.out⟩⟩
   ·exact(by
     have hh:=HTF.out
     rw[show max s.now t=mx from by rw[HMX.out,HNOW.out]]
     exact hh)
end Go.Proofs.YtjanmleoomoedaaGreat
namespace Go.Proofs.YtjanmleoomoedaaGreat
open Go.RowKit
set_option linter.unusedVariables false
attribute [local go_sem ↓] Go.wp_at_zero Go.wp_at_succ
def BuildC (cf:Cfg) (ct n:Nat) (z:Nat→Int) (w:World) (e:Ending) (w':World):Prop:=
 ∃A c,e=.returned (.tuple #[.slice A (pduN cf n) c,.int .i64 0])∧pduN cf n≤c∧(∀a,A=some a→w.heap.size≤a.block∧∃cur t,w'.heap[a.block]? = some (.cells cur t (0,0)))∧Row w' w'.heap.size A (pduN cf n) (fun j=>.int .u8 ((pduZ cf ct n (nf z) j:Nat):Int))∧Below w.heap.size w w'
theorem Cfg.Ok.keyN {C:Cfg} (hok:C.Ok):B16 (nf C.key):=fun j hj=>nf_lt hok.key hj
theorem pdu_plain {cf:Cfg} {ct n:Nat} {z:Nat→Nat} (h:cf.ig=false) {j:Nat} (hj:j < n):cryF (nf cf.key) ct cf.b.toNat cf.d.toNat (plainZ cf ct n z) j=cryF (nf cf.key) ct cf.b.toNat cf.d.toNat z j:=by
 unfold cryF plainZ catF
 rw[if_pos hj]
theorem sl_row {w:World} {A:Option Addr} {n c:Nat} {xs:List Value} {v:Nat→Value} (h:SL w 5 1 A n c xs) (hx:∀j,j < n→xs[j]? = some (v j)):Row w w.heap.size A n v:=fun hn=>by
 obtain⟨b,o,hA,hb⟩:=h.some_ hn
 exact⟨b,o,hA,hb,fun j hj=>(h.cell hA (by omega)).trans (hx j hj)⟩
set_option maxRecDepth 100000 in
set_option maxHeartbeats 1600000 in
theorem tbuild_plain (g:Nat) (s:TS) (W R:Nat→Prop) (w:World) (h:TxI w g s W R) (hok:s.C.Ok) (hv:s.C.Valid) (hig:s.C.ig=false) (hcm:s.C.cm=false) (ct:Nat) (hct:ct < 4294967296) (A:Option Addr) (n c:Nat) (z:Nat→Int) (hp1:1≤n) (hp9:n≤9000) (hr:Row w w.heap.size A n (fun j=>.int .u8 (z j))) (hz:∀j,j < n→0≤z j∧z j < 256) :
  Calls Tryz.prog 42 #[.pointer (some ⟨g,0,none⟩),.int .u32 ct,.slice A n c] w (BuildC s.C ct n z w):=by
 obtain⟨qA,qc,lq,pA,pc,lp,ub,cb,hT⟩:=h
 have HT:=zh hT
 have HR:=zh hr
 have HZ:=zh hz
 have c35:w.cell? ⟨g,35,none⟩=some (.bool false):=(hT.cC (j:=35) (by decide)).trans (by rw[show s.C.cell 35=.bool s.C.cm from rfl,hcm])
 have c0:(0:Int)≤(ct:Int):=by omega
 have c1:(ct:Int) < 4294967296:=by omega
 have HIG:=zh hig
 have HKL:=zh hok.keyN
 obtain⟨B,hB⟩:∃B:Nat,B=s.C.b.toNat:=⟨_,rfl⟩
 obtain⟨D,hD⟩:∃D:Nat,D=s.C.d.toNat:=⟨_,rfl⟩
 have HB:=zh hB
 have HD:=zh hD
 have HBI:Hid (s.C.b=(B:Int)):=zh (by rw[hB];have:=hv.1;omega)
 have HDI:Hid (s.C.d=(D:Int)):=zh (by rw[hD];have:=hv.2.2.1;omega)
 have HBL:Hid (B < 32):=zh (by rw[hB];have:=hv.2.1;omega)
 have HDL:Hid (D < 2):=zh (by rw[hD];have:=hv.2.2.1;omega)
 have HCT:=zh hct
 have HP:Hid (1≤n∧n≤9000):=zh ⟨hp1,hp9⟩
 have HNF:=zh (show(fun j=>Value.int .u8 (((nf z j:Nat)):Int))=(fun j=>Value.int .u8 ((nf z j:Nat):Int))from rfl)
 clear hT hr hz hig hB hD hv hct hp1 hp9 hcm HNF
 go_enter Tryz.func42,Tryz.ntmps42
 go_upto_region 8 with (fail)
 obtain⟨hb,hhb⟩:∃hb,hb=w.heap.size:=⟨_,rfl⟩
 have HHB:=zh hhb
 refine wp_let (fun V=>Blk V hb 5 #[.int .u8 (128+(ct:Int) / 256 % 16),.int .u8 ((ct:Int) % 256)]∧Below w.heap.size w V) ⟨by rw[hhb];exact Blk.new _ _ _,(Below.refl _ w).alloc (Nat.le_refl _) _⟩ ?_
 rintro V ⟨b1,b2⟩
 have B1:=zh b1
 have B2:=zh b2
 have HCL:=zh (clone_any A n c z V (by have:=HP.out;omega) (HR.out.next b2))
 rw[←hhb]
 clear b1 b2 hhb c35
 go_upto_region 9 with (go_at_call 22;refine(HCL.out).mono ?_;rintro e V2 ⟨A2,c2,rfl,hc2,hR2,hF2,hbk⟩;have HR2:=zh hR2;have HF2:=zh hF2;have HBK:=zh hbk;clear hc2 hR2 hF2 hbk)
 have T2:=zh (HT.out.below (B2.out.trans (HBK.out.mono B2.out.size)))
 have c34:V2.cell? ⟨g,34,none⟩=some (.bool false):=(T2.out.cC (j:=34) (by decide)).trans (by rw[show s.C.cell 34=.bool s.C.ig from rfl,HIG.out])
 go_upto_region 14 with (fail)
 have HBW:=zh (B2.out.trans (HBK.out.mono B2.out.size))
 have HBH:=zh (B1.out.below HBK.out B1.out.lt)
 obtain⟨w0,hw0⟩:∃w0,w0=V2.drew:=⟨_,rfl⟩
 have hb0:Below V2.heap.size V2 w0:=by rw[hw0];exact(Below.refl _ _).drew
 have HKR:=zh (show ∀W',Below V2.heap.size V2 W'→W'.rangeAt g 2 (b16 (nf s.C.key)).toList from fun W' hW j v hv=>by
  have hj:j < 16:=by have:=(List.getElem?_eq_some_iff.1 hv).1;rw[Array.length_toList,b16_size]at this;exact this
  rw[(T2.out.below hW).cC (j:=2+j) (by omega),←hv,Array.getElem?_toList,b16_at _ hj]
  unfold Cfg.cell
  rw[if_neg (by omega),if_neg (by omega),if_pos (by omega),show 2+j-2=j by omega,nf_cast hok.key hj])
 have HC0:=zh (show ∀W',Below V2.heap.size V2 W'→W'.cell? ⟨g,0,none⟩=some (.int .i64 (B:Int))from fun W' hW=>((T2.out.below hW).cC (j:=0) (by decide)).trans (by rw[show s.C.cell 0=.int .i64 s.C.b from rfl,HBI.out]))
 have HC1:=zh (show ∀W',Below V2.heap.size V2 W'→W'.cell? ⟨g,1,none⟩=some (.int .i64 (D:Int))from fun W' hW=>((T2.out.below hW).cC (j:=1) (by decide)).trans (by rw[show s.C.cell 1=.int .i64 s.C.d from rfl,HDI.out]))
 have HS16:Hid ((Tryz.prog.info? 23).map (·.size)=some (b16 (nf s.C.key)).toList.length):=zh (by rw[Array.length_toList,b16_size];kernel_rfl)
 have HUK:=zh Tryz.underlying23
 have HCR:=zh (crypt_ok (nf s.C.key) ct B D HKL.out HCT.out HBL.out HDL.out A2 n c2 (nf z) HP.out.1 (by have:=HP.out;omega) (fun j hj=>nf_lt HZ.out hj) w0 (Row.congr (HR2.out.next hb0) (fun j hj=>by rw[nf_cast HZ.out hj])))
 refine wp_region_held_drew (S:=fun w'=>Below V2.heap.size V2 w') (by kernel_rfl) ((Below.refl _ V2).drew) (fun hHeld=>?_)
 rw[←hw0]
 rw[←hw0]at hHeld
 clear hw0 c34
 refine tkH (i:=0) (oi:=⟨some 93,_,_,_,_,_⟩) (v:=.pointer (some ⟨g,0,none⟩)) rfl (Or.inl ⟨by rfl,fun W hW=>(by rfl)⟩) (by assumption) ?_
 refine tkH (i:=1) (oi:=⟨some 94,_,_,_,_,_⟩) (v:=.pointer (some ⟨g,0,none⟩)) rfl (Or.inl ⟨by rfl,fun W hW=>(by go_simp)⟩) (by assumption) ?_
 refine tkH (i:=2) (oi:=⟨some 95,_,_,_,_,_⟩) (v:=.pointer (some ⟨g,0,none⟩)) rfl (Or.inl ⟨by rfl,fun W hW=>(by go_simp)⟩) (by assumption) ?_
 refine tkH (i:=3) (oi:=⟨some 96,_,_,_,_,_⟩) (v:=.pointer (some ⟨g,2,none⟩)) rfl (Or.inl ⟨by rfl,fun W hW=>(by go_simp)⟩) (by assumption) ?_
 refine' tkH (i:=4) (oi:=⟨some 97,_,_,_,_,_⟩) (v:=_) rfl (yieldsIf_load_mid (by rfl) _ _ rfl g 2 rfl (b16 (nf s.C.key)).toList _ (fun w h=>HKR.out w h) HUK.out rfl HS16.out) (by assumption) ?_
 refine tkH (i:=5) (oi:=⟨some 98,_,_,_,_,_⟩) (v:=.int .u32 ct) rfl (Or.inl ⟨by rfl,fun W hW=>(by rfl)⟩) (by assumption) ?_
 refine tkH (i:=6) (oi:=⟨some 99,_,_,_,_,_⟩) (v:=.pointer (some ⟨g,0,none⟩)) rfl (Or.inl ⟨by rfl,fun W hW=>(by rfl)⟩) (by assumption) ?_
 refine tkH (i:=7) (oi:=⟨some 100,_,_,_,_,_⟩) (v:=.pointer (some ⟨g,0,none⟩)) rfl (Or.inl ⟨by rfl,fun W hW=>(by go_simp)⟩) (by assumption) ?_
 refine tkH (i:=8) (oi:=⟨some 101,_,_,_,_,_⟩) (v:=.pointer (some ⟨g,0,none⟩)) rfl (Or.inl ⟨by rfl,fun W hW=>(by go_simp)⟩) (by assumption) ?_
 refine tkH (i:=9) (oi:=⟨some 102,_,_,_,_,_⟩) (v:=.pointer (some ⟨g,0,none⟩)) rfl (Or.inl ⟨by rfl,fun W hW=>(by go_simp)⟩) (by assumption) ?_
 refine tkH (i:=10) (oi:=⟨some 103,_,_,_,_,_⟩) (v:=.int .i64 (B:Int)) rfl (Or.inl ⟨by rfl,fun W hW=>(by have:=HC0.out W hW;go_simp)⟩) (by assumption) ?_
 refine tkH (i:=11) (oi:=⟨some 104,_,_,_,_,_⟩) (v:=.pointer (some ⟨g,0,none⟩)) rfl (Or.inl ⟨by rfl,fun W hW=>(by rfl)⟩) (by assumption) ?_
 refine tkH (i:=12) (oi:=⟨some 105,_,_,_,_,_⟩) (v:=.pointer (some ⟨g,0,none⟩)) rfl (Or.inl ⟨by rfl,fun W hW=>(by go_simp)⟩) (by assumption) ?_
 refine tkH (i:=13) (oi:=⟨some 106,_,_,_,_,_⟩) (v:=.pointer (some ⟨g,0,none⟩)) rfl (Or.inl ⟨by rfl,fun W hW=>(by go_simp)⟩) (by assumption) ?_
 refine tkH (i:=14) (oi:=⟨some 107,_,_,_,_,_⟩) (v:=.pointer (some ⟨g,1,none⟩)) rfl (Or.inl ⟨by rfl,fun W hW=>(by go_simp)⟩) (by assumption) ?_
 refine tkH (i:=15) (oi:=⟨some 108,_,_,_,_,_⟩) (v:=.int .i64 (D:Int)) rfl (Or.inl ⟨by rfl,fun W hW=>(by have:=HC1.out W hW;go_simp)⟩) (by assumption) ?_
 refine tkH (i:=16) (oi:=⟨some 109,_,_,_,_,_⟩) (v:=.slice A2 n c2) rfl (Or.inl ⟨by rfl,fun W hW=>(by rfl)⟩) (by assumption) ?_
 refine wpAnyH_ready (rs:=[17]) (by kernel_rfl) (by simp) ?_
 refine AllReadyH.cons (o:=⟨some 110,_,_,_,_,_⟩) rfl (fun K hK=>?_) AllReadyH.nil
 rw[if_pos (by rfl)]
 go_simp
 refine(HCR.out).mono ?_
 rintro e w3 ⟨A3,c3,rfl,hc3,hF3,hR3,hB3⟩
 dsimp only
 have HR3:=zh hR3
 have HB3:=zh hB3
 have H3:Below V2.heap.size V2 w3:=hHeld.trans (hB3.mono hb0.size)
 refine hK.out _ _ H3 (fun hHeld=>?_)
 clear hK K hR3 hF3 hc3 hB3
 try simp only[Act.put,List.setIfInBounds_toArray,List.set_cons_zero,List.set_cons_succ]
 refine tkH (i:=18) (oi:=⟨some 92,_,_,_,_,_⟩) (v:=.tuple #[.slice A3 n c3,.int .i64 0]) rfl (Or.inl ⟨by rfl,fun W hW=>(by rfl)⟩) (by assumption) ?_
 refine tkH (i:=19) (oi:=⟨some 111,_,_,_,_,_⟩) (v:=.slice A3 n c3) rfl (Or.inl ⟨by rfl,fun W hW=>(by go_simp)⟩) (by assumption) ?_
 refine tkH (i:=21) (oi:=⟨some 15,_,_,_,_,_⟩) (v:=.slice A3 n c3) rfl (Or.inl ⟨by rfl,fun W hW=>(by rfl)⟩) (by assumption) ?_
 refine tkH (i:=20) (oi:=⟨some 112,_,_,_,_,_⟩) (v:=.int .i64 0) rfl (Or.inl ⟨by rfl,fun W hW=>(by go_simp)⟩) (by assumption) ?_
 refine tkH (i:=22) (oi:=⟨some 16,_,_,_,_,_⟩) (v:=.int .i64 0) rfl (Or.inl ⟨by rfl,fun W hW=>(by rfl)⟩) (by assumption) ?_
 refine wpAnyH_done (by kernel_rfl) ?_ _
 have HH3:=zh H3
 clear H3 hHeld
 go_upto_region 17 with (fail)
 have HB3:=zh (HBH.out.below HH3.out HBH.out.lt)
 have HSH:=zh (show SL w3 5 1 (some ⟨hb,0,none⟩) 2 2 [.int .u8 (128+(ct:Int) / 256 % 16),.int .u8 ((ct:Int) % 256)]from ⟨rfl,.inr ⟨hb,0,_,rfl,HB3.out,Nat.le_refl _,by unfold maxLen;omega,by simp,fun j hj=>by rw[Nat.zero_add];simp⟩⟩)
 obtain⟨lb,lo,hA3,hlb,hlc⟩:=HR3.out HP.out.1
 subst hA3
 have HLC:=zh hlc
 obtain⟨CF,hCF⟩:∃CF,CF=cryF (nf s.C.key) ct B D (nf z):=⟨_,rfl⟩
 have HCF:=zh hCF
 rw[←hCF]at HLC
 obtain⟨i0,hi,hz0,hz1,hz2⟩:=info_parts Tryz.infoByte
 have HSRC:Hid (Src Tryz.prog 1 46 (.slice (some ⟨lb,lo,none⟩) n c3) n ((List.range n).map fun j=>.int .u8 ((CF j:Nat):Int)) w3):=zh (Src.ofSlice _ Tryz.underlying46 ⟨lb,lo,none⟩ n c3 _ (by simp) (fun j u hu=>by
   have hj:j < n:=by have:=(List.getElem?_eq_some_iff.1 hu).1;simpa using this
   rw[Addr.add_lit,HLC.out j hj,←hu]
   simp[hj]) (fun u hu=>by
    obtain⟨j,_,rfl⟩:=List.mem_map.1 hu
    rfl))
 clear hlc hCF
 go_wp2_with (refine wpList_sl_append rfl _ _ _ _ rfl w3 5 i0 (.int .u8 0) 1 1 Tryz.underlying46 hi hz0 hz1 hz2 rfl (some ⟨hb,0,none⟩) 2 2 _ rfl HSH.out _ rfl n ((List.range n).map fun j=>.int .u8 ((CF j:Nat):Int)) HSRC.out HP.out.1 (by have:=HP.out;unfold maxLen;omega) (by have:=HP.out;omega) ?_;intro A9 c9 wA hSL9 hK9 hA9;have HSL9:=zh hSL9;have HK9:=zh hK9;have HA9:=zh hA9;clear hSL9 hK9 hA9)
 go_ret2
 have hw3:w.heap.size≤w3.heap.size:=Nat.le_trans HBW.out.size HH3.out.size
 have hpn:pduN s.C n=2+n:=by unfold pduN plainN;rw[HIG.out];rfl
 refine⟨A9,c9,by rw[hpn];rfl,by rw[hpn];exact HSL9.out.le,fun a e=>⟨?_,by obtain⟨cur,h⟩:=HSL9.out.obj e;exact⟨cur,_,h⟩⟩,?_,KeepF.below (HBW.out.trans (HH3.out.mono HBW.out.size)) HK9.out (fun k ⟨a,ha,e⟩=>by cases ha;rw[e];exact Nat.le_of_eq HHB.out.symm) hw3⟩
 ·rcases HA9.out a e with ⟨a',ha',e'⟩ | hge
  ·cases ha'
   rw[e',HHB.out]
   exact Nat.le_refl _
  ·omega
 ·rw[hpn]
  refine(sl_row HSL9.out (fun j hj=>?_)).more (Nat.le_refl _)
  unfold pduZ catF
  by_cases hj2:j < 2
  ·rw[if_pos hj2,List.getElem?_append_left (by simpa using hj2)]
   rcases (by omega:j=0∨j=1)with rfl | rfl
   ·simp[hdB]
   ·simp[hdB]
  ·rw[if_neg hj2,List.getElem?_append_right (by simp;omega)]
   have hjn:j-2 < n:=by omega
   rw[pdu_plain HIG.out hjn,←HB.out,←HD.out,←HCF.out]
   simp[hjn]
end Go.Proofs.YtjanmleoomoedaaGreat

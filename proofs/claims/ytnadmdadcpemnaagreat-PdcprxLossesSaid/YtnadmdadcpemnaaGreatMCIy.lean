import Derived.Test.YtnadmdadcpemnaaGreatCGy
import Derived.Test.YtnadmdadcpemnaaGreatCEy
import Derived.Test.YtnadmdadcpemnaaGreatMDXy
import Derived.Test.YtnadmdadcpemnaaGreatMZAy
import Derived.Lib.SlBytesConst
namespace Go.Proofs.YtnadmdadcpemnaaGreat
open Go.RowKit
set_option linter.unusedVariables false
set_option linter.unusedSimpArgs false
theorem cnt_seq {d:Int} {ct:Nat} (h0:0≤d) (h1:d≤4294967296) (hc:ct < 4294967296) (h2:d-2048≤(ct:Int)) (h3:(ct:Int)≤d+2047):cntOf d ((ct % 4096:Nat):Int)=some (ct:Int):=by
 have hh:cntH d ((ct % 4096:Nat):Int)=(ct:Int) / 4096:=by
  unfold cntH
  split
  ·omega
  ·split
   ·omega
   ·omega
 unfold cntOf
 rw[hh,if_pos (by omega)]
 congr 1
 omega
end Go.Proofs.YtnadmdadcpemnaaGreat
namespace Go.Proofs.YtnadmdadcpemnaaGreat
open Go.RowKit
set_option linter.unusedVariables false
set_option linter.unusedSimpArgs false
def zI (k:Nat):Nat→Nat:=fun j=>if j=0 then k % 256 else 7
theorem zI_lt (k j:Nat):zI k j < 256:=by unfold zI;split<;>omega
def rcv (ms:Nat→Bool) (i:Nat):List Nat:=(List.range i).filter fun k=>!ms k
def lossV (cf:Cfg) (k:Nat):SV:=svP cf k 2 (zI k)
theorem rcv_miss {ms:Nat→Bool} {i:Nat} (h:ms i=true):rcv ms (i+1)=rcv ms i:=by
 unfold rcv
 rw[List.range_succ,List.filter_append]
 simp[h]
theorem rcv_got {ms:Nat→Bool} {i:Nat} (h:ms i=false):rcv ms (i+1)=rcv ms i++[i]:=by
 unfold rcv
 rw[List.range_succ,List.filter_append]
 simp[h]
theorem rcv_len (ms:Nat→Bool) (i:Nat):(rcv ms i).length≤i:=by
 unfold rcv
 have:=List.length_filter_le (fun k=>!ms k) (List.range i)
 rw[List.length_range]at this
 exact this
def Asc (L:List SV):Prop:=L.Pairwise fun a b=>a.ct < b.ct
theorem asc_rcv (cf:Cfg) (ms:Nat→Bool) (i:Nat):Asc ((rcv ms i).map (lossV cf)):=by
 unfold Asc
 rw[List.pairwise_map]
 refine List.Pairwise.imp (R:=fun a b=>a < b) (fun {a b} h=>?_) (List.Pairwise.filter _ List.pairwise_lt_range)
 show(a:Int) < (b:Int)
 omega
theorem asc_right {a b:List SV} (h:Asc (a++b)):Asc b:=(List.pairwise_append.1 h).2.1
theorem loss_low_high (k:Int):∀L:List SV,Asc L→lowL k L++highL k L=L
 | [],_=>rfl
 | x :: r,h=>by
  have h1:=List.pairwise_cons.1 h
  by_cases hx:x.ct < k
  ·have h2:=loss_low_high k r h1.2
   unfold lowL highL at *
   simp only[List.filter_cons,decide_eq_true hx,if_true,Bool.not_true,Bool.false_eq_true,if_false,List.cons_append,h2]
  ·have e1:lowL k (x :: r)=[]:=List.filter_eq_nil_iff.2 (fun a ha=>by
    rcases List.mem_cons.1 ha with h3 | h3
    ·simp[h3];omega
    ·have:=h1.1 a h3;simp;omega)
   have e2:highL k (x :: r)=x :: r:=List.filter_eq_self.2 (fun a ha=>by
    rcases List.mem_cons.1 ha with h3 | h3
    ·simp[h3];omega
    ·have:=h1.1 a h3;simp;omega)
   rw[e1,e2]
   rfl
theorem fromL_le:∀(L:List SV) (d nx:Int),(∀e,e∈L→e.ct < nx)→d≤nx→(fromL L d).2.2≤nx
 | [],d,nx,_,h=>h
 | x :: r,d,nx,h,hd=>by
  unfold fromL
  split
  ·rename_i hx
   exact fromL_le r (d+1) nx (fun e he=>h e (List.mem_cons_of_mem _ he)) (by have:=h x (by simp);omega)
  ·exact hd
theorem timer_props (y:RS) (hro:0 < y.C.ro) (hx:y.run=true→y.expiry≤y.now+y.C.ro) :
  y.timer.C=y.C∧y.timer.L=y.L∧y.timer.dup=y.dup∧y.timer.next=y.next∧y.timer.now=y.now∧y.timer.deliver=y.deliver∧(y.timer.run=true→y.timer.expiry≤y.now+y.C.ro)∧(y.timer.run=false→y.next≤y.deliver)∧(y.run=false→y.timer.run=true→y.timer.limit=y.next):=by
 have hstop:y.stop.C=y.C∧y.stop.L=y.L∧y.stop.dup=y.dup∧y.stop.next=y.next∧y.stop.now=y.now∧y.stop.deliver=y.deliver∧(y.stop.run=true→y.stop.expiry≤y.now+y.C.ro):=by
  unfold RS.stop
  split
  ·exact⟨rfl,rfl,rfl,rfl,rfl,rfl,fun h=>by cases h⟩
  ·exact⟨rfl,rfl,rfl,rfl,rfl,rfl,hx⟩
 have hoff:y.run=false→y.stop=y:=fun h=>by
  unfold RS.stop
  rw[if_neg (by rw[h];simp)]
 have hst:y.timer=y.stop.start:=rfl
 obtain⟨q,hq⟩:∃q,q=y.stop:=⟨_,rfl⟩
 rw[←hq]at hstop hoff hst
 obtain⟨a1,a2,a3,a4,a5,a6,a7⟩:=hstop
 rw[hst]
 unfold RS.start
 by_cases hc:q.run=false∧0 < q.C.ro∧q.deliver < q.next
 ·rw[if_pos hc]
  refine⟨a1,a2,a3,a4,a5,a6,fun _=>?_,fun h=>(by cases h),fun _ _=>a4⟩
  show q.now+q.C.ro≤_
  rw[a5,a1];exact Int.le_refl _
 ·rw[if_neg hc]
  refine⟨a1,a2,a3,a4,a5,a6,a7,fun h=>?_,fun h h2=>?_⟩
  ·rw[←a4,←a6]
   by_cases hl:q.deliver < q.next
   ·exact absurd ⟨h,by rw[a1];exact hro,hl⟩ hc
   ·omega
  ·rw[hoff h,h]at h2
   cases h2
theorem expire_props (q:RS) (hro:0 < q.C.ro) (hd:0≤q.deliver∧q.deliver≤q.next) (hl:0≤q.limit∧q.limit≤q.next) (rng:∀e,e∈q.L→q.deliver≤e.ct∧e.ct < q.next) (asc:Asc q.L) (hx:q.run=true→q.expiry≤q.now+q.C.ro) (hi:q.run=false→q.next≤q.deliver) :
  q.expire.1++q.expire.2.L=q.L∧q.expire.2.C=q.C∧q.expire.2.dup=q.dup∧q.expire.2.next=q.next∧q.expire.2.now=q.now∧0≤q.expire.2.deliver∧q.expire.2.deliver≤q.next∧(q.expire.2.run=true→q.expire.2.expiry≤q.now+q.C.ro)∧(q.expire.2.run=false→q.next≤q.expire.2.deliver):=by
 by_cases hf:q.run=false∨q.now < q.expiry
 ·have e:q.expire=([],q):=by unfold RS.expire;rw[if_pos hf]
  rw[e]
  exact⟨rfl,rfl,rfl,rfl,rfl,hd.1,hd.2,hx,hi⟩
 ·have e:q.expire=(lowL q.limit q.L++q.cut.deliver_.1,q.cut.deliver_.2.timer):=by unfold RS.expire;rw[if_neg hf]
  rw[e]
  obtain⟨y,hy⟩:∃y,y=q.cut.deliver_.2:=⟨_,rfl⟩
  have y1:y.C=q.C∧y.dup=q.dup∧y.next=q.next∧y.now=q.now∧y.run=false:=by rw[hy];exact⟨rfl,rfl,rfl,rfl,rfl⟩
  have y2:y.deliver=(fromL (highL q.limit q.L) (max q.deliver q.limit)).2.2:=by rw[hy];rfl
  have y3:y.L=(fromL (highL q.limit q.L) (max q.deliver q.limit)).2.1:=by rw[hy];rfl
  have y4:q.cut.deliver_.1=(fromL (highL q.limit q.L) (max q.deliver q.limit)).1:=rfl
  have y5:=fromL_app (highL q.limit q.L) (max q.deliver q.limit)
  have y6:=fromL_end (highL q.limit q.L) (max q.deliver q.limit)
  have y7:=fromL_le (highL q.limit q.L) (max q.deliver q.limit) q.next (fun e he=>(rng e (List.mem_filter.1 he).1).2) (by omega)
  obtain⟨t1,t2,t3,t4,t5,t6,t7,t8,t9⟩:=timer_props y (by rw[y1.1];exact hro) (fun h=>by rw[y1.2.2.2.2]at h;cases h)
  rw[←hy]
  refine⟨?_,t1.trans y1.1,t3.trans y1.2.1,t4.trans y1.2.2.1,t5.trans y1.2.2.2.1,by rw[t6,y2];omega,by rw[t6,y2];exact y7,fun h=>(by have:=t7 h;rw[y1.2.2.2.1,y1.1]at this;exact this),fun h=>(by have:=t8 h;rw[y1.2.2.1]at this;rw[t6];exact this)⟩
  show(lowL q.limit q.L++q.cut.deliver_.1)++y.timer.L=q.L
  rw[t2,y3,y4,List.append_assoc,y5]
  exact loss_low_high _ _ asc
structure LI (cf:Cfg) (ms:Nat→Bool) (i:Nat) (out:List SV) (s:RS):Prop where
 C:s.C=cf
 all:out++s.L=(rcv ms i).map (lossV cf)
 now:s.now≤i
 nx:s.next≤i
 lim:s.run=true→s.expiry≤s.now+cf.ro
 idle:s.run=false→s.next≤s.deliver
 dup:s.dup=0
theorem li_new (cf:Cfg) (X:Obj) (ms:Nat→Bool):LI cf ms 0 [] (rnewS cf X):=
 ⟨rfl,rfl,Int.le_refl _,Int.le_refl _,fun h=>(by cases h),fun _=>Int.le_refl _,rfl⟩
section
variable {cf:Cfg} {ms:Nat→Bool} {i:Nat} {out:List SV} {s:RS}
theorem LI.miss (h:LI cf ms i out s) (hm:ms i=true):LI cf ms (i+1) out s:=
 ⟨h.C,by rw[rcv_miss hm];exact h.all,by have:=h.now;omega,by have:=h.nx;omega,h.lim,h.idle,h.dup⟩
theorem LI.len (h:LI cf ms i out s):out.length+s.L.length≤i:=by
 have h1:=congrArg List.length h.all
 rw[List.length_append,List.length_map]at h1
 have:=rcv_len ms i
 omega
theorem li_recv (hok:cf.Ok) (hro:0 < cf.ro) (h:LI cf ms i out s) (ok:s.Ok) (rng:∀e,e∈s.L→s.deliver≤e.ct∧e.ct < s.next) (hm:ms i=false) (hi:i < 24) :
  ∃x s',s.receive i (pduN cf 2) (pduZ cf i 2 (zI i))=(x,0,s')∧LI cf ms (i+1) (out++x) s':=by
 have hasc:Asc s.L:=asc_right (by rw[h.all];exact asc_rcv cf ms i)
 obtain⟨q,hq⟩:∃q,q=s.at_ i:=⟨_,rfl⟩
 have q1:q.C=cf∧q.L=s.L∧q.dup=0∧q.next=s.next∧q.deliver=s.deliver∧q.limit=s.limit∧q.run=s.run∧q.expiry=s.expiry:=by rw[hq];exact⟨h.C,rfl,h.dup,rfl,rfl,rfl,rfl,rfl⟩
 have q2:q.now=(i:Int):=by
  rw[hq]
  show max s.now (i:Int)=i
  have:=h.now
  omega
 obtain⟨c1,c2,c3,c4,c5,c6,c7,c8⟩:=q1
 obtain⟨e1,e2,e3,e4,e5,e6,e7,e8,e9⟩:=expire_props q (by rw[c1];exact hro) (by rw[c5,c4];exact ok.deliver) (by rw[c6,c4];exact ok.limit) (fun e he=>by rw[c5,c4];rw[c2]at he;exact rng e he) (by rw[c2];exact hasc) (fun hr=>by
  rw[c8,c1,q2]
  rw[c7]at hr
  have:=h.lim hr
  have:=h.now
  omega) (fun hr=>by rw[c4,c5];rw[c7]at hr;exact h.idle hr)
 obtain⟨s5,hs5⟩:∃s5,s5=q.expire.2:=⟨_,rfl⟩
 obtain⟨x1,hx1⟩:∃x1,x1=q.expire.1:=⟨_,rfl⟩
 rw[←hs5]at e1 e2 e3 e4 e5 e6 e7 e8 e9
 rw[←hx1]at e1
 have hmem:∀e,e∈s5.L→e.ct < (i:Int):=fun e he=>by
  have h1:e∈q.L:=by rw[←e1];exact List.mem_append.2 (.inr he)
  rw[c2]at h1
  have:=(rng e h1).2
  have:=h.nx
  omega
 have hnx:=h.nx
 have hC5:s5.C=cf:=e2.trans c1
 have hcnt:=cnt_seq (d:=s5.deliver) (ct:=i) e6 (by omega) (by omega) (by omega) (by omega)
 have htk:=take_pduI s5 (by rw[hC5];exact hok) i 2 (zI i) (by decide) (by decide) (fun j _=>zI_lt i j) hcnt
 rw[hC5]at htk
 have hns:¬(stored s5.L (i:Int)=true∨(i:Int) < s5.deliver):=by
  rintro (h1 | h1)
  ·obtain⟨e,he,h2⟩:=List.any_eq_true.1 h1
   have:=hmem e he
   simp at h2
   omega
  ·omega
 rw[if_neg hns]at htk
 have hins:insV (svP cf i 2 (zI i)) s5.L=s5.L++[lossV cf i]:=insV_end _ _ (fun y hy=>hmem y hy)
 have hmx:max s5.next ((i:Int)+1)=(i:Int)+1:=by rw[e4,c4];omega
 rw[hins,hmx]at htk
 obtain⟨s6,hs6⟩:∃s6:RS,s6={ s5 with C:=cf,L:=s5.L++[lossV cf i],next:=(i:Int)+1 }:=⟨_,rfl⟩
 rw[←hs6]at htk
 have hrc:s.receive i (pduN cf 2) (pduZ cf i 2 (zI i))=(x1++s6.deliver_.1,0,s6.deliver_.2.timer):=by
  unfold RS.receive
  rw[if_neg (by omega),←hq]
  simp only
  rw[←hs5,htk,←hx1]
  simp only[if_true]
 obtain⟨y,hy⟩:∃y,y=s6.deliver_.2:=⟨_,rfl⟩
 have y1:y.C=cf∧y.dup=0∧y.next=(i:Int)+1∧y.now=(i:Int)∧y.run=s5.run∧y.expiry=s5.expiry:=by
  rw[hy,hs6]
  exact⟨rfl,e3.trans c3,rfl,e5.trans q2,rfl,rfl⟩
 have y3:y.L=(fromL s6.L s6.deliver).2.1:=by rw[hy];rfl
 have y5:=fromL_app s6.L s6.deliver
 have y8:s6.L=s5.L++[lossV cf i]:=by rw[hs6]
 obtain⟨t1,t2,t3,t4,t5,t6,t7,t8,t9⟩:=timer_props y (by rw[y1.1];exact hro) (fun hr=>by
  rw[y1.2.2.2.2.2,y1.2.2.2.1,y1.1]
  rw[y1.2.2.2.2.1]at hr
  have:=e8 hr
  rw[q2,c1]at this
  exact this)
 rw[hrc,←hy]
 refine⟨_,_,rfl,⟨t1.trans y1.1,?_,by rw[t5,y1.2.2.2.1];omega,by rw[t4,y1.2.2.1];omega,fun hr=>by have:=t7 hr;rw[t5];rw[y1.1]at this;exact this,fun hr=>by rw[t4,t6];exact t8 hr,t3.trans y1.2.1⟩⟩
 have:(fromL s6.L s6.deliver).1=s6.deliver_.1:=rfl
 rw[t2,y3,←this,List.append_assoc,List.append_assoc,y5,y8,rcv_got hm,List.map_append,←h.all,List.append_assoc,←List.append_assoc x1,e1,c2]
 rfl
end
structure TI (cf:Cfg) (vs:List SV) (T:Int) (k:Nat) (out:List SV) (s:RS):Prop where
 C:s.C=cf
 all:out++s.L=vs
 now:s.now=T
 lim:s.run=true→s.limit=s.next∧s.expiry≤T+cf.ro
 idle:s.run=false→s.next≤s.deliver
 fin:2≤k→s.run=false
section
variable {cf:Cfg} {ms:Nat→Bool} {n:Nat} {vs out:List SV} {s:RS}
theorem TI.len {T:Int} {k:Nat} (h:TI cf vs T k out s):out.length+s.L.length=vs.length:=by
 have h1:=congrArg List.length h.all
 rwa [List.length_append]at h1
theorem tick_due (hro:0 < cf.ro) (hC:s.C=cf) (T:Int) (hT:T < 1073741824) (hnow:s.now≤T) (ok:s.Ok) (rng:∀e,e∈s.L→s.deliver≤e.ct∧e.ct < s.next) (asc:Asc s.L) (hx:s.run=true→s.expiry≤T) (hi:s.run=false→s.next≤s.deliver) :
  ∃x s',s.tick T=(x,0,s')∧x++s'.L=s.L∧s'.C=cf∧s'.now=T∧(s'.run=true→s'.limit=s'.next∧s'.expiry≤T+cf.ro)∧(s'.run=false→s'.next≤s'.deliver)∧(s.run=true→s.limit=s.next→s'.run=false)∧(s.run=false→s'.run=false):=by
 obtain⟨q,hq⟩:∃q,q=s.at_ T:=⟨_,rfl⟩
 have q1:q.C=cf∧q.L=s.L∧q.dup=s.dup∧q.next=s.next∧q.deliver=s.deliver∧q.limit=s.limit∧q.run=s.run∧q.expiry=s.expiry:=by rw[hq];exact⟨hC,rfl,rfl,rfl,rfl,rfl,rfl,rfl⟩
 have q2:q.now=T:=by
  rw[hq]
  show max s.now T=T
  omega
 obtain⟨c1,c2,c3,c4,c5,c6,c7,c8⟩:=q1
 have htk:s.tick T=(q.expire.1,0,q.expire.2):=by
  unfold RS.tick
  rw[if_neg (by omega),←hq]
 rw[htk]
 cases hr:s.run with
 | false=>
  have e:q.expire=([],q):=by unfold RS.expire;rw[if_pos (.inl (c7.trans hr))]
  rw[e]
  exact⟨_,_,rfl,by rw[List.nil_append];exact c2,c1,q2,fun h=>(by rw[c7,hr]at h;cases h),fun _=>(by rw[c4,c5];exact hi hr),fun h=>(by cases h),fun _=>c7.trans hr⟩
 | true=>
  have hxx:=hx hr
  have e:q.expire=(lowL q.limit q.L++q.cut.deliver_.1,q.cut.deliver_.2.timer):=by
   unfold RS.expire
   rw[if_neg]
   rintro (h | h)
   ·rw[c7,hr]at h;cases h
   ·rw[q2,c8]at h;omega
  rw[e]
  obtain⟨y,hy⟩:∃y,y=q.cut.deliver_.2:=⟨_,rfl⟩
  have y1:y.C=cf∧y.next=q.next∧y.now=T∧y.run=false:=by rw[hy];exact⟨c1,rfl,q2,rfl⟩
  have y2:y.deliver=(fromL (highL q.limit q.L) (max q.deliver q.limit)).2.2:=by rw[hy];rfl
  have y3:y.L=(fromL (highL q.limit q.L) (max q.deliver q.limit)).2.1:=by rw[hy];rfl
  have y4:q.cut.deliver_.1=(fromL (highL q.limit q.L) (max q.deliver q.limit)).1:=rfl
  have y5:=fromL_app (highL q.limit q.L) (max q.deliver q.limit)
  have y6:=fromL_end (highL q.limit q.L) (max q.deliver q.limit)
  obtain⟨t1,t2,t3,t4,t5,t6,t7,t8,t9⟩:=timer_props y (by rw[y1.1];exact hro) (fun h=>by rw[y1.2.2.2]at h;cases h)
  rw[←hy]
  refine⟨_,_,rfl,?_,t1.trans y1.1,t5.trans y1.2.2.1,fun h=>⟨(by rw[t9 y1.2.2.2 h,t4]),(by have:=t7 h;rw[y1.2.2.1,y1.1]at this;exact this)⟩,fun h=>(by rw[t4,t6];exact t8 h),fun _ hl=>?_,fun h=>(by cases h)⟩
  ·rw[t2,y3,y4,List.append_assoc,y5,←c2]
   exact loss_low_high _ _ (by rw[c2];exact asc)
  ·cases hz:y.timer.run with
   | false=>rfl
   | true=>
    have h1:y.next≤y.deliver:=by
     rw[y1.2.1,y2,y6,c4,c6,hl]
     omega
    exfalso
    have hst:y.timer=y.stop.start:=rfl
    have hsp:y.stop=y:=by unfold RS.stop;rw[if_neg (by rw[y1.2.2.2];simp)]
    rw[hst,hsp]at hz
    unfold RS.start at hz
    rw[if_neg (by rintro ⟨_,_,h2⟩;omega),y1.2.2.2]at hz
    cases hz
theorem ti_first (hro:0 < cf.ro∧cf.ro≤1000) (h:LI cf ms n out s) (hn:n≤24) (ok:s.Ok) (rng:∀e,e∈s.L→s.deliver≤e.ct∧e.ct < s.next) :
  ∃x s',s.tick ((n:Int)+cf.ro)=(x,0,s')∧TI cf ((rcv ms n).map (lossV cf)) ((n:Int)+cf.ro) 1 (out++x) s':=by
 have hasc:Asc s.L:=asc_right (by rw[h.all];exact asc_rcv cf ms n)
 have hnow:=h.now
 obtain⟨x,s',e1,e2,e3,e4,e5,e6,e7,e8⟩:=tick_due hro.1 h.C ((n:Int)+cf.ro) (by omega) (by omega) ok rng hasc (fun hr=>by have:=h.lim hr;omega) h.idle
 exact⟨x,s',e1,⟨e3,by rw[List.append_assoc,e2];exact h.all,e4,e5,e6,fun h=>by omega⟩⟩
theorem ti_step {T:Int} {k:Nat} (hro:0 < cf.ro∧cf.ro≤1000) (hvs:Asc vs) (h:TI cf vs T k out s) (hk:1≤k) (hT:T < 1000000) (ok:s.Ok) (rng:∀e,e∈s.L→s.deliver≤e.ct∧e.ct < s.next) :
  ∃x s',s.tick (T+cf.ro)=(x,0,s')∧TI cf vs (T+cf.ro) (k+1) (out++x) s':=by
 have hasc:Asc s.L:=asc_right (by rw[h.all];exact hvs)
 have hnow:=h.now
 obtain⟨x,s',e1,e2,e3,e4,e5,e6,e7,e8⟩:=tick_due hro.1 h.C (T+cf.ro) (by omega) (by omega) ok rng hasc (fun hr=>(h.lim hr).2) h.idle
 refine⟨x,s',e1,⟨e3,by rw[List.append_assoc,e2];exact h.all,e4,e5,e6,fun _=>?_⟩⟩
 cases hr:s.run with
 | false=>exact e8 hr
 | true=>exact e7 hr (h.lim hr).1
theorem TI.done {T:Int} {k:Nat} (h:TI cf vs T k out s) (hk:2≤k) (rng:∀e,e∈s.L→s.deliver≤e.ct∧e.ct < s.next):out=vs:=by
 have h1:=h.idle (h.fin hk)
 have h2:s.L=[]:=List.eq_nil_iff_forall_not_mem.2 (fun e he=>by have:=rng e he;omega)
 rw[←h.all,h2,List.append_nil]
end
end Go.Proofs.YtnadmdadcpemnaaGreat
namespace Go.Proofs.YtnadmdadcpemnaaGreat
open Go.RowKit
set_option linter.unusedVariables false
attribute [local go_sem ↓] Go.wp_at_zero Go.wp_at_succ
def BE2 (w:World) (A:Option Addr) (k:Nat) (n:Nat) (z:Nat→Int):Prop:=
 ∃lb lo PA pc,A=some ⟨lb,lo,none⟩∧lb < w.heap.size∧w.cell? ⟨lb,lo+k,none⟩=some (.slice PA n pc)∧Row w w.heap.size PA n (fun j=>.int .u8 (z j))
theorem BE2.below {w w':World} {A:Option Addr} {k:Nat} {n:Nat} {z:Nat→Int} (h:BE2 w A k n z) (hb:Below w.heap.size w w'):BE2 w' A k n z:=by
 obtain⟨lb,lo,PA,pc,h1,h2,h3,h5⟩:=h
 exact⟨lb,lo,PA,pc,h1,Nat.lt_of_lt_of_le h2 hb.size,(hb.cell (p:=⟨lb,lo+k,none⟩) h2).trans h3,h5.next hb⟩
def SameB (w:World) (A A':Option Addr) (m:Nat):Prop:=∀k,k < m→∃n z z',BE2 w A k n z∧BE2 w A' k n z'∧∀j,j < n→z j=z' j
theorem SameB.below {w w':World} {A A':Option Addr} {m:Nat} (h:SameB w A A' m) (hb:Below w.heap.size w w'):SameB w' A A' m:=fun k hk=>by
 obtain⟨n,z,z',h1,h2,h3⟩:=h k hk
 exact⟨n,z,z',h1.below hb,h2.below hb,h3⟩
set_option maxRecDepth 100000 in
set_option maxHeartbeats 1600000 in
theorem samel_true (A A':Option Addr) (m c c':Nat) (w:World) (hm:m≤maxLen) (h:SameB w A A' m) :
  Calls Tryz.prog 14 #[.slice A m c,.slice A' m c'] w fun e w'=>e=.returned (.bool true)∧Below w.heap.size w w':=by
 unfold maxLen at hm
 have HS:=Lib.hid h
 have hm':(m:Int)≤9223372036854775807:=by omega
 clear h
 go_enter Tryz.func14,Tryz.ntmps14
 go_wp2
 go_loopw [5] (fun v wr=>∃k:Nat,k≤m∧v=.int .i64 k∧Below w.heap.size w wr) (fun v _=>m-(intOf v).toNat)
 case atStart=>exact⟨0,by omega,rfl,Below.refl _ _⟩
 case round=>
  obtain⟨k,hk,rfl,hb⟩:=hrel
  by_cases hlt:k < m
  ·obtain⟨n,z,z',⟨lb,lo,PA,pc,rfl,h2,h3,h5⟩,⟨lb',lo',PA',pc',rfl,k2,k3,k5⟩,he⟩:=(HS.out.below hb) k hlt
   have s1:=fun q=>row_string (P:=Tryz.prog) (w:=wr.drewN q) 35 9 5 Tryz.underlying35 Tryz.underlying5 Tryz.underlying9 (show Row (wr.drewN q) wr.heap.size PA n (fun j=>.int .u8 (z j))from h5) pc
   have s2:=fun q=>row_string (P:=Tryz.prog) (w:=wr.drewN q) 35 9 5 Tryz.underlying35 Tryz.underlying5 Tryz.underlying9 (show Row (wr.drewN q) wr.heap.size PA' n (fun j=>.int .u8 (z' j))from k5) pc'
   rw[←bytesOf_congr he]at s2
   have BB:=Lib.hid hb
   have k0:(0:Int)≤(k:Int):=by omega
   have k1:(k:Int) < (m:Int):=by omega
   clear h5 k5 he hb
   go_upto_region 6 with (fail)
   go_quiet (fail)
   go_wp2
   go_roundw
   case rel=>exact⟨k+1,by omega,by go_num,below_drewN BB.out _⟩
   case measure=>simp[intOf];omega
  ·obtain rfl:k=m:=by omega
   have BB:=Lib.hid hb
   clear hb
   go_wp2
   go_ret
   exact⟨rfl,BB.out⟩
end Go.Proofs.YtnadmdadcpemnaaGreat

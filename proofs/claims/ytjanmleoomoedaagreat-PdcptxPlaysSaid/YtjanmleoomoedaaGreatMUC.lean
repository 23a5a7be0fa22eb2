import Derived.Test.YtjanmleoomoedaaGreatMGV
import Derived.Test.YtjanmleoomoedaaGreatMXG
import Derived.Test.YtjanmleoomoedaaGreatMUA
namespace Go.Proofs.YtjanmleoomoedaaGreat
open Go.RowKit
set_option linter.unusedVariables false
private theorem zh {p:Prop} (h:p):Hid p:=h
private theorem tkH {P:Program} {ops:Array Oper} {Q:Exit→Act→World→Prop} {md:Region.Mode} {S:World→Prop} {i:Nat} {oi:Oper} {v:Value} {fuel:Nat} {listed l':Array Bool} {a a':Act} {w:World} (hi:ops[i]? = some oi) (hy:YieldsIf P ops S oi v a) (hS:S w)
  (h:wpAnyH P md ops Q S fuel l' a' w) (hl:listed.setIfInBounds i true=l':=by(try simp only[List.setIfInBounds_toArray,List.set_cons_zero,List.set_cons_succ]);rfl) (ha:a.put oi.dst v=a':=by(try simp only[Act.put,List.setIfInBounds_toArray,List.set_cons_zero,List.set_cons_succ]);rfl) (hs:Region.noSelect ops=true:=by kernel_rfl) (hf:Region.free md ops listed i=true:=by kernel_rfl) (hr:(Region.ready md ops listed).contains i=true:=by kernel_rfl)
  (hQ:∀c a w,Q (.panic c) (a.put oi.dst v) w→Q (.panic c) a w:=by exact fun _ _ _ h=>h):wpAnyH P md ops Q S (fuel+1) listed a w:=by subst hl;subst ha;exact wpAnyH_take hi hs hf hr hQ hy hS h
private theorem tkL {P:Program} {ops:Array Oper} {Q:Exit→Act→World→Prop} {md:Region.Mode} {S:World→Prop} {L i:Nat} {oi:Oper} {v:Value} {fuel:Nat} {listed l':Array Bool} {a a':Act} {w:World} (hi:ops[i]? = some oi) (hy:YieldsIf P ops S oi v a) (hS:S w)
  (h:wpAnyL P md ops Q S L fuel l' a' w) (hl:listed.setIfInBounds i true=l':=by(try simp only[List.setIfInBounds_toArray,List.set_cons_zero,List.set_cons_succ]);rfl) (ha:a.put oi.dst v=a':=by(try simp only[Act.put,List.setIfInBounds_toArray,List.set_cons_zero,List.set_cons_succ]);rfl) (hL:waitsFor md ops L i=true:=by kernel_rfl) (hs:Region.noSelect ops=true:=by kernel_rfl) (hf:Region.free md ops listed i=true:=by kernel_rfl) (hr:(Region.ready md ops listed).contains i=true:=by kernel_rfl)
  (hQ:∀c a w,Q (.panic c) (a.put oi.dst v) w→Q (.panic c) a w:=by exact fun _ _ _ h=>h):wpAnyL P md ops Q S L (fuel+1) listed a w:=by subst hl;subst ha;exact wpAnyL_take hi hL hs hf hr hQ hy hS h
structure PI (s:TS) (U:List (Nat→Int)) (i:Nat):Prop where
 used:s.used=U.map kArr
 comp:CompOk s.comp
 fine:s.Fine
 now:0≤s.now
 cm:s.C.cm=false
 nx:0≤s.next∧s.next≤4294967296
 asc:(s.P.map (·.ct)).Pairwise (· < ·)
 pend:∀p,p∈s.P→0≤p.ct∧p.ct < s.next∧s.next-p.ct≤2048
 pk:∀p,p∈s.P→1≤p.n∧p.n≤9000∧∀j,j < p.n→0≤p.z j∧p.z j < 256
 ack:s.P ≠ []→s.C.ac=true
 qk:∀q,q∈s.Q→1≤q.n∧q.n≤9000∧∀j,j < q.n→0≤q.z j∧q.z j < 256
 ql:s.Q.length≤i
 pl:s.P.length≤i
section
variable {s:TS} {U:List (Nat→Int)} {i:Nat}
theorem PI.more (h:PI s U i):PI s U (i+1):={ h with ql:=by have:=h.ql;omega,pl:=by have:=h.pl;omega }
theorem PI.tick (h:PI s U i) (t:Int):PI (s.tick t) U i:=
 ⟨h.used,h.comp,h.fine.tick t,by
  have:=h.now
  show 0≤max s.now t
  omega,h.cm,h.nx,h.asc,h.pend,h.pk,h.ack,fun q hq=>h.qk q (List.mem_filter.1 hq).1,Nat.le_trans (TS.tick_len s t) h.ql,h.pl⟩
theorem PI.submit (h:PI s U i) (t:Int) (n:Nat) (z:Nat→Int) (hz:∀j,j < n→0≤z j∧z j < 256):PI (s.submit t n z).2 U (i+1):=by
 have hf:=h.fine.submit h.now t n z
 unfold TS.submit at hf ⊢
 split
 ·exact h.more
 ·rw[if_neg (by assumption)]at hf
  split
  ·exact(h.tick t).more
  ·rw[if_neg (by assumption)]at hf
   split
   ·exact(h.tick t).more
   ·rw[if_neg (by assumption)]at hf
    have ht:=h.tick t
    refine⟨ht.used,ht.comp,hf,ht.now,ht.cm,ht.nx,ht.asc,ht.pend,ht.pk,ht.ack,fun q hq=>?_,?_,Nat.le_succ_of_le ht.pl⟩
    ·rcases List.mem_append.1 hq with hq | hq
     ·exact ht.qk q hq
     ·rw[List.mem_singleton.1 hq]
      exact⟨by show 1≤n;omega,by show n≤9000;omega,hz⟩
    ·show((s.tick t).Q++[_]).length≤i+1
     rw[List.length_append]
     have:=ht.ql
     simp
     omega
theorem set_ct:∀(l:List PV) (k:Nat) (p:PV),l[k]? = some p→(l.set k { p with rep:=false }).map (·.ct)=l.map (·.ct)
 | [],k,p,h=>rfl
 | q :: r,0,p,h=>by
  have:q=p:=by simpa using h
  subst this
  rfl
 | q :: r,k+1,p,h=>by
  rw[List.set_cons_succ,List.map_cons,List.map_cons,set_ct r k p (by simpa using h)]
theorem PI.full (h:PI s U i):s.full=true↔∃p r,s.P=p :: r∧s.next-p.ct=2048:=by
 unfold TS.full
 cases hP:s.P with
 | nil=>exact⟨fun h=>(by cases h),fun⟨p,r,e,_⟩=>(by cases e)⟩
 | cons p r=>
  have hp:=h.pend p (by rw[hP];simp)
  have hn:=h.nx
  constructor
  ·intro hh
   have:=of_decide_eq_true hh
   exact⟨p,r,rfl,by omega⟩
  ·rintro ⟨p',r',e,hh⟩
   cases e
   exact decide_eq_true (by omega)
theorem PI.send (h:PI s U i) (t:Int):PI (s.send t).s U (i+1):=by
 have hf:=h.fine.send t
 have ht:=h.tick t
 unfold TS.send at hf ⊢
 split
 ·exact h.more
 ·rw[if_neg (by assumption)]at hf
  split
  ·rename_i k p hk
   rw[hk]at hf
   obtain⟨hk1,_,_⟩:=firstRep_some hk
   have hset:∀q,q∈s.P.set k { p with rep:=false }→∃q',q'∈s.P∧q.ct=q'.ct∧q.n=q'.n∧q.z=q'.z:=fun q hq=>by
    rcases List.mem_or_eq_of_mem_set hq with hq | hq
    ·exact⟨q,hq,rfl,rfl,rfl⟩
    ·exact⟨p,List.mem_of_getElem? hk1,by rw[hq],by rw[hq],by rw[hq]⟩
   refine⟨ht.used,ht.comp,hf,ht.now,ht.cm,ht.nx,?_,fun q hq=>?_,fun q hq=>?_,fun hne=>?_,ht.qk,Nat.le_succ_of_le ht.ql,?_⟩
   ·show((s.P.set k { p with rep:=false }).map (·.ct)).Pairwise (· < ·)
    rw[set_ct s.P k p hk1]
    exact h.asc
   ·obtain⟨q',h1,h2,_⟩:=hset q hq
    rw[h2]
    exact h.pend q' h1
   ·obtain⟨q',h1,_,h2,h3⟩:=hset q hq
    rw[h2,h3]
    exact h.pk q' h1
   ·exact h.ack (fun e=>by rw[e]at hk1;simp at hk1)
   ·show(s.P.set k _).length≤i+1
    rw[List.length_set]
    have:=h.pl
    omega
  ·rename_i hk
   rw[hk]at hf
   split
   ·exact ht.more
   ·rename_i q r hq
    simp only[hq]at hf
    split
    ·exact ht.more
    ·rw[if_neg (by assumption)]at hf
     split
     ·exact ht.more
     ·rename_i hne hfu
      rw[if_neg hfu]at hf
      have hqr:∀x,x∈r→x∈(s.tick t).Q:=fun x hx=>by rw[hq];exact List.mem_cons_of_mem _ hx
      have hq0:=ht.qk q (by rw[hq];simp)
      have hlen:=ht.ql
      rw[hq,List.length_cons]at hlen
      have hn:=h.nx
      have hnf:∀p,p∈s.P→s.next-p.ct < 2048:=fun p hp=>by
       by_cases hlt:s.next-p.ct < 2048
       ·exact hlt
       ·have h4:=h.pend p hp
        refine absurd ?_ hfu
        rw[h.full]
        cases hP:s.P with
        | nil=>rw[hP]at hp;cases hp
        | cons p0 r0=>
         have h5:=h.pend p0 (by rw[hP];simp)
         refine⟨p0,r0,rfl,?_⟩
         rw[hP]at hp
         rcases List.mem_cons.1 hp with e | e
         ·rw[←e];omega
         ·have h6:=h.asc
          rw[hP,List.map_cons]at h6
          have h7:=(List.pairwise_cons.1 h6).1 p.ct (List.mem_map.2 ⟨p,e,rfl⟩)
          omega
      refine⟨ht.used,ht.comp,hf,ht.now,ht.cm,by show 0≤s.next+1∧s.next+1≤4294967296;omega,?_,fun p hp=>?_,fun p hp=>?_,fun hp=>?_,fun x hx=>ht.qk x (hqr x hx),by show r.length≤i+1;omega,?_⟩
      ·show((if s.C.ac=true then s.P++[⟨s.next,q.n,q.z,false⟩] else s.P).map (·.ct)).Pairwise (· < ·)
       split
       ·rw[List.map_append]
        refine List.pairwise_append.2 ⟨h.asc,List.pairwise_singleton _ _,fun a ha b hb=>?_⟩
        obtain⟨p,hp,rfl⟩:=List.mem_map.1 ha
        rw[List.mem_singleton.1 hb]
        exact(h.pend p hp).2.1
       ·exact h.asc
      ·have hp':p∈(if s.C.ac=true then s.P++[⟨s.next,q.n,q.z,false⟩] else s.P):=hp
       show 0≤p.ct∧p.ct < s.next+1∧s.next+1-p.ct≤2048
       have hold:p∈s.P→0≤p.ct∧p.ct < s.next+1∧s.next+1-p.ct≤2048:=fun hp=>by
        have h1:=h.pend p hp
        have h2:=hnf p hp
        omega
       split at hp'
       ·rcases List.mem_append.1 hp' with hp2 | hp2
        ·exact hold hp2
        ·rw[List.mem_singleton.1 hp2]
         show 0≤s.next∧s.next < s.next+1∧s.next+1-s.next≤2048
         omega
       ·exact hold hp'
      ·have hp':p∈(if s.C.ac=true then s.P++[⟨s.next,q.n,q.z,false⟩] else s.P):=hp
       split at hp'
       ·rcases List.mem_append.1 hp' with hp2 | hp2
        ·exact h.pk p hp2
        ·rw[List.mem_singleton.1 hp2]
         exact hq0
       ·exact h.pk p hp'
      ·by_cases hac:s.C.ac=true
       ·exact hac
       ·refine h.ack (fun e=>hp ?_)
        show(if s.C.ac=true then s.P++[⟨s.next,q.n,q.z,false⟩] else s.P)=[]
        rw[if_neg hac,e]
      ·show(if s.C.ac=true then s.P++[⟨s.next,q.n,q.z,false⟩] else s.P).length≤i+1
       have:=h.pl
       split
       ·rw[List.length_append];simp;omega
       ·omega
theorem PI.confirmed (h:PI s U i) (x:Int):PI (s.confirmed x).2 U (i+1):=by
 unfold TS.confirmed
 cases hx:firstCt x s.P with
 | none=>exact h.more
 | some k=>
  have hm:∀p,p∈s.P.eraseIdx k→p∈s.P:=fun p hp=>List.mem_of_mem_eraseIdx hp
  exact⟨h.used,h.comp,⟨h.fine.ok,h.fine.val,h.fine.at_⟩,h.now,h.cm,h.nx,h.asc.sublist ((List.eraseIdx_sublist s.P k).map _),fun p hp=>h.pend p (hm p hp),fun p hp=>h.pk p (hm p hp),fun hp=>h.ack (fun e=>hp (by show s.P.eraseIdx k=[];rw[e];rfl)),h.qk,Nat.le_succ_of_le h.ql,by
   have:=h.pl
   have:=List.length_eraseIdx_le s.P k
   show(s.P.eraseIdx k).length≤i+1
   omega⟩
theorem PI.rekey (h:PI s U i) (f c:Nat→Int) (hf:∀j,j < 16→0≤f j∧f j < 256) (hc:∀j,j < 16→0≤c j∧c j < 256):PI (s.rekey U f c).2 (if hasKey f U=true then U else U++[f]) (i+1):=by
 unfold TS.rekey
 split
 ·exact h.more
 ·have hm:∀p,p∈s.P.map PV.again→∃q,q∈s.P∧p=q.again:=fun p hp=>by
   obtain⟨q,hq,rfl⟩:=List.mem_map.1 hp
   exact⟨q,hq,rfl⟩
  refine⟨by show s.used++[kArr f] = _;rw[h.used,List.map_append];rfl,cNew_ok,⟨⟨hf,hc⟩,h.fine.val,h.fine.at_⟩,h.now,h.cm,h.nx,?_,fun p hp=>?_,fun p hp=>?_,fun hp=>h.ack (fun e=>hp ?_),h.qk,Nat.le_succ_of_le h.ql,?_⟩
  ·show((s.P.map PV.again).map (·.ct)).Pairwise (· < ·)
   rw[List.map_map]
   exact h.asc
  ·obtain⟨q,hq,rfl⟩:=hm p hp
   exact h.pend q hq
  ·obtain⟨q,hq,rfl⟩:=hm p hp
   exact h.pk q hq
  ·show s.P.map PV.again=[]
   rw[e]
   rfl
  ·show(s.P.map PV.again).length≤i+1
   rw[List.length_map]
   exact Nat.le_succ_of_le h.pl
end
theorem ct_mono {ct:Nat→Int} {m:Nat} (h:∀k,k < m→0 < k→ct (k-1) < ct k):∀b,b < m→∀a,a < b→ct a < ct b
 | 0,_,a,ha=>by omega
 | b+1,hb,a,ha=>by
  have h1:=h (b+1) hb (by omega)
  rw[Nat.add_sub_cancel]at h1
  rcases (by omega:a < b∨a=b)with h2 | rfl
  ·have:=ct_mono h b (by omega) a h2
   omega
  ·exact h1
theorem PI.res {cf:Cfg} (hok:cf.Ok) (hv:cf.Valid) (hcm:cf.cm=false) {nx:Int} {us:Bool} (hnx:0≤nx∧nx < 4294967296) {m mq:Nat} {ct:Nat→Int} {pn:Nat→Nat} {z:Nat→Nat→Int} {qn:Nat→Nat} {y:Nat→Nat→Int} (hf:FOk cf.ac nx us m ct pn mq qn) (hct:∀k,k < m→0≤ct k) (hz:∀k,k < m→∀j,j < pn k→0≤z k j∧z k j < 256) (hy:∀k,k < mq→∀j,j < qn k→0≤y k j∧y k j < 256) {i:Nat} (hi:m≤i∧mq≤i) :
  PI (resS cf (nextOf nx us) m ct pn z mq qn y) [cf.key] i:=by
 have hfit:∀n,fitsB n=true→1≤n∧n≤9000:=fun n h=>of_decide_eq_true h
 have hmono:=ct_mono (ct:=ct) (m:=m) (fun k hk h0=>(hf.elem k hk).2.2 h0)
 have hN:0≤nextOf nx us∧nextOf nx us≤4294967296:=by unfold nextOf;split<;>omega
 refine⟨rfl,cNew_ok,⟨hok,hv,fun q hq=>?_⟩,Int.le_refl _,hcm,hN,?_,fun p hp=>?_,fun p hp=>?_,fun hp=>?_,fun q hq=>?_,by show(resQ mq qn y).length≤i;rw[resQ_len];exact hi.2,by show(resP m ct pn z).length≤i;rw[resP_len];exact hi.1⟩
 ·obtain⟨k,_,rfl⟩:=List.mem_map.1 hq
  exact⟨Int.le_refl _,Int.le_refl _⟩
 ·show((resP m ct pn z).map (·.ct)).Pairwise (· < ·)
  unfold resP
  rw[List.map_map,List.pairwise_map]
  exact List.Pairwise.imp_of_mem (fun {a b} ha hb hab=>hmono b (List.mem_range.1 hb) a hab) List.pairwise_lt_range
 ·obtain⟨k,hk,rfl⟩:=List.mem_map.1 hp
  have hk:=List.mem_range.1 hk
  have h1:=(hf.elem k hk).2.1
  have h2:=hf.window (by omega)
  have h3:=hct k hk
  show 0≤ct k∧ct k < nextOf nx us∧nextOf nx us-ct k≤2048
  rcases (by omega:k=0∨0 < k)with rfl | h0
  ·omega
  ·have:=hmono k hk 0 h0
   omega
 ·obtain⟨k,hk,rfl⟩:=List.mem_map.1 hp
  have hk:=List.mem_range.1 hk
  have h1:=hfit _ (hf.elem k hk).1
  exact⟨h1.1,h1.2,hz k hk⟩
 ·refine hf.acked ?_
  rcases Nat.eq_zero_or_pos m with rfl | h0
  ·exact absurd rfl hp
  ·exact h0
 ·obtain⟨k,hk,rfl⟩:=List.mem_map.1 hq
  have hk:=List.mem_range.1 hk
  have h1:=hfit _ (hf.queue k hk)
  exact⟨h1.1,h1.2,hy k hk⟩
end Go.Proofs.YtjanmleoomoedaaGreat
namespace Go.Proofs.YtjanmleoomoedaaGreat
open Go.RowKit
set_option linter.unusedVariables false
set_option linter.unusedSimpArgs false
attribute [local go_sem ↓] Go.wp_at_zero Go.wp_at_succ
theorem PE.one {l:List PE} {u:Value} (h:u∈l.flatMap PE.cells):u.oneCell'=true:=by
 obtain⟨e,_,he⟩:=List.mem_flatMap.1 h
 simp[PE.cells]at he
 rcases he with rfl | rfl | rfl<;>rfl
theorem wp_region_Lx {P:Program} {ops:Array Oper} {Q:Exit→Act→World→Prop} {S:World→Prop} {L:Nat} {id:Nat} {a:Act} {w:World} (hm:P.follows .mixedOrders=true) (hS:S w.drew)
  (h:S w.drew→wpAnyL P .any ops (fun x a w=>match x with | .panic _=>False | y=>Q y a w) S L ops.size (Array.replicate ops.size false) a w.drew):(Code.region id ops true).wp P Q a w:=
 Code.wp_mono (fun e a w h=>by cases e<;>first | exact h.elim | exact h) (wp_region_L hm hS h)
section
variable {w w1 w' V:World} {B h:Nat} {s:TS} {qA:Option Addr} {qc:Nat} {lq:List WE} {pA:Option Addr} {pc:Nat} {lp:List PE} {uA:Option Addr} {uc:Nat} {ks:List (Nat→Int)} {F N N':Nat→Prop}
set_option maxRecDepth 100000 in
set_option maxHeartbeats 3200000 in
theorem uconfirm_no (m:UM w B h s qA qc lq pA pc lp uA uc ks) (hlp:lp.length≤1000000) (x:Int) (hx:0≤x∧x < 4294967296) (hfc:firstCt x s.P=none) :
  Calls Tryz.prog 26 #[.pointer (some ⟨h,0,none⟩),.int .u32 x] w fun e w'=>e=.returned (.int .i64 10)∧Below w.heap.size w w':=by
 have HM:=zh m
 obtain⟨n,hn⟩:∃n,n=lp.length:=⟨_,rfl⟩
 have HLN:=zh hn
 have n9:n≤1000000:=by rw[hn];exact hlp
 have n0:(0:Int)≤(n:Int):=by omega
 have n91:(n:Int)≤1000000:=by omega
 have hx0:=hx.1
 have hx1:=hx.2
 have HNO:=zh (firstCt_none hfc)
 clear m hn hlp hx hfc
 go_enter Tryz.func26,Tryz.ntmps26
 go_wp2
 go_loopw [5] (fun v5 wr=>∃k:Nat,k≤n∧v5=.int .i64 k∧Below w.heap.size w wr) (fun v5 _=>n+1-(intOf v5).toNat)
 case atStart=>exact⟨0,by omega,rfl,Below.refl _ _⟩
 case round=>
  obtain⟨k,hk,rfl,hB⟩:=hrel
  have HB:=zh hB
  have k0:(0:Int)≤(k:Int):=by omega
  have y42:wr.cell? ⟨h,42,none⟩=some (.slice pA n pc):=by rw[HLN.out];exact(HM.out.below hB).cp
  by_cases hkn:k < n
  ·obtain⟨e,he⟩:∃e,lp[k]? = some e:=⟨_,List.getElem?_eq_getElem (by rw[←HLN.out];exact hkn)⟩
   obtain⟨b,o,hpA,hb,c0,c1,c2⟩:=(HM.out.below hB).pcell he
   have hPk:s.P[k]? = some e.v:=by rw[←HM.out.pv,List.getElem?_map,he];rfl
   subst hpA
   have k1:(k:Int) < (n:Int):=by omega
   have hne:=HNO.out e.v (List.mem_of_getElem? hPk)
   obtain⟨y,hy⟩:∃y,y=e.v.ct:=⟨_,rfl⟩
   rw[←hy]at c0 hne
   clear hB he hPk c1 c2 hy
   go_wp2
   go_roundw
   case rel=>exact⟨k+1,by omega,by go_num,HB.out⟩
   case measure=>simp[intOf];omega
  ·obtain rfl:n=k:=by omega
   have k1:¬(n:Int) < (n:Int):=by omega
   clear hB hkn hk
   go_wp2
   go_ret
   exact⟨rfl,HB.out⟩
set_option maxRecDepth 100000 in
set_option maxHeartbeats 6400000 in
theorem uconfirm_yes (m:UM w B h s qA qc lq pA pc lp uA uc ks) (hlp:lp.length≤1000000) (x:Int) (hx:0≤x∧x < 4294967296) (i:Nat) (hfc:firstCt x s.P=some i) :
  Calls Tryz.prog 26 #[.pointer (some ⟨h,0,none⟩),.int .u32 x] w fun e w'=>e=.returned (.int .i64 0)∧UO w w' B h { s with P:=s.P.eraseIdx i } (uBlk h qA pA uA):=by
 have HM:=zh m
 obtain⟨n,hn⟩:∃n,n=lp.length:=⟨_,rfl⟩
 have HLN:=zh hn
 have n9:n≤1000000:=by rw[hn];exact hlp
 have n0:(0:Int)≤(n:Int):=by omega
 have n91:(n:Int)≤1000000:=by omega
 have hx0:=hx.1
 have hx1:=hx.2
 obtain⟨p,hp,hpx,hno⟩:=firstCt_some hfc
 have HP:=zh (And.intro hp (And.intro hpx hno))
 have hin:i < n:=by
  have h1:=(List.getElem?_eq_some_iff.1 hp).1
  rw[m.plen,←hn]at h1
  exact h1
 obtain⟨ip,hip,hipz,hips,hipb⟩:=infoPendU
 clear m hn hlp hx hfc hp hpx hno
 go_enter Tryz.func26,Tryz.ntmps26
 go_wp2
 go_loopw [5] (fun v5 wr=>∃k:Nat,k≤i∧v5=.int .i64 k∧Below w.heap.size w wr) (fun v5 _=>i+1-(intOf v5).toNat)
 case atStart=>exact⟨0,by omega,rfl,Below.refl _ _⟩
 case round=>
  obtain⟨k,hk,rfl,hB⟩:=hrel
  have HB:=zh hB
  have k0:(0:Int)≤(k:Int):=by omega
  have y42:wr.cell? ⟨h,42,none⟩=some (.slice pA n pc):=by rw[HLN.out];exact(HM.out.below hB).cp
  have hkn:k < n:=by omega
  obtain⟨e,he⟩:∃e,lp[k]? = some e:=⟨_,List.getElem?_eq_getElem (by rw[←HLN.out];exact hkn)⟩
  obtain⟨b,o,hpA,hb,c0,c1,c2⟩:=(HM.out.below hB).pcell he
  have hPk:s.P[k]? = some e.v:=by rw[←HM.out.pv,List.getElem?_map,he];rfl
  subst hpA
  have k1:(k:Int) < (n:Int):=by omega
  by_cases hki:k < i
  ·have hne:e.v.ct ≠ x:=HP.out.2.2 k hki e.v hPk
   obtain⟨y,hy⟩:∃y,y=e.v.ct:=⟨_,rfl⟩
   rw[←hy]at c0 hne
   clear hB he hPk c1 c2 hy hkn
   go_wp2
   go_roundw
   case rel=>exact⟨k+1,by omega,by go_num,HB.out⟩
   case measure=>simp[intOf];omega
  ·have hki2:i=k:=by omega
   have hep:e.v.ct=x:=by
    have h1:=HP.out.1
    rw[hki2,hPk]at h1
    rw[Option.some.inj h1]
    exact HP.out.2.1
   rw[hep]at c0
   have HKI:=zh hki2
   have hMr:=HM.out.below hB
   have HMR:=zh hMr
   have hpm:=hMr.p.cmax
   have hple:=hMr.p.le
   rw[←HLN.out]at hple
   unfold maxLen at hpm
   have q1:(k:Int)≤(pc:Int):=by omega
   have q2:(pc:Int)≤9223372036854775807:=by omega
   have q3:(k:Int)+1≤(n:Int):=by omega
   have q4:(n:Int)≤(pc:Int):=by omega
   have w1:IntKind.i64.wrap ((k:Int)+1)=(k:Int)+1:=IntWalk.i64_in _ (by omega)
   have HS1:=zh (show SL wr 78 3 (some ⟨b,o,none⟩) k pc ((lp.take k).flatMap PE.cells)from by
    have h1:=hMr.p.take k (by rw[←HLN.out];omega)
    rw[take_flat]at h1
    exact h1)
   have HS2:=zh (show SL wr 78 3 (if pc=k+1 then some ⟨b,o,none⟩ else some ⟨b,o+(k+1)*3,none⟩) (n-(k+1)) (pc-(k+1)) ((lp.drop (k+1)).flatMap PE.cells)from by
    have h1:=hMr.p.drop (k+1) (by rw[←HLN.out];omega)
    rw[drop_flat,←HLN.out]at h1
    exact h1)
   have q5:(0:Int)≤(k:Int)+1:=by omega
   obtain⟨DA,hDA⟩:∃DA:Option Addr,DA=if pc=k+1 then some ⟨b,o,none⟩ else some ⟨b,o+(k+1)*3,none⟩:=⟨_,rfl⟩
   rw[←hDA]at HS2
   have HDA:=zh hDA
   have HC:=zh (show ∀W,Below wr.heap.size wr W→W.cell? ⟨h,42,none⟩=some (.slice (some ⟨b,o,none⟩) n pc)∧W.frozen? ⟨h,42,none⟩=false from fun W hW=>⟨(hW.cell (p:=⟨h,42,none⟩) hMr.blk.lt).trans y42,(hMr.blk.below hW hMr.blk.lt).frozen 42⟩)
   clear hB he hPk c1 c2 hki hMr hep hki2 hDA hpm
   go_upto_region 5 with (fail)
   refine wp_region_Lx (L:=18) (S:=fun w'=>Below wr.heap.size wr w') (by kernel_rfl) ((Below.refl _ wr).drew) (fun hHeld=>?_)
   obtain⟨w0,hw0⟩:∃w0,w0=wr.drew:=⟨_,rfl⟩
   rw[←hw0]
   rw[←hw0]at hHeld
   clear hw0
   refine tkL (i:=0) (oi:=⟨some 25,_,_,_,_,_⟩) (v:=.pointer (some ⟨h,0,none⟩)) rfl (Or.inl ⟨by rfl,fun W hW=>(by rfl)⟩) (by assumption) ?_
   refine tkL (i:=1) (oi:=⟨some 26,_,_,_,_,_⟩) (v:=.pointer (some ⟨h,0,none⟩)) rfl (Or.inl ⟨by rfl,fun W hW=>(by rfl)⟩) (by assumption) ?_
   refine tkL (i:=2) (oi:=⟨some 27,_,_,_,_,_⟩) (v:=.pointer (some ⟨h,0,none⟩)) rfl (Or.inl ⟨by rfl,fun W hW=>(by go_simp)⟩) (by assumption) ?_
   refine tkL (i:=3) (oi:=⟨some 28,_,_,_,_,_⟩) (v:=.pointer (some ⟨h,42,none⟩)) rfl (Or.inl ⟨by rfl,fun W hW=>(by go_simp)⟩) (by assumption) ?_
   refine tkL (i:=4) (oi:=⟨some 29,_,_,_,_,_⟩) (v:=.slice (some ⟨b,o,none⟩) n pc) rfl (Or.inl ⟨by rfl,fun W hW=>(by obtain⟨x0,x1⟩:=HC.out W hW;go_simp)⟩) (by assumption) ?_
   refine tkL (i:=5) (oi:=⟨some 30,_,_,_,_,_⟩) (v:=.int .i64 (k:Int)) rfl (Or.inl ⟨by rfl,fun W hW=>(by rfl)⟩) (by assumption) ?_
   refine tkL (i:=6) (oi:=⟨some 31,_,_,_,_,_⟩) (v:=.slice (some ⟨b,o,none⟩) k pc) rfl (Or.inl ⟨by rfl,fun W hW=>(by go_simp)⟩) (by assumption) ?_
   refine tkL (i:=8) (oi:=⟨some 33,_,_,_,_,_⟩) (v:=.pointer (some ⟨h,0,none⟩)) rfl (Or.inl ⟨by rfl,fun W hW=>(by rfl)⟩) (by assumption) ?_
   refine tkL (i:=9) (oi:=⟨some 34,_,_,_,_,_⟩) (v:=.pointer (some ⟨h,0,none⟩)) rfl (Or.inl ⟨by rfl,fun W hW=>(by go_simp)⟩) (by assumption) ?_
   refine tkL (i:=10) (oi:=⟨some 35,_,_,_,_,_⟩) (v:=.pointer (some ⟨h,42,none⟩)) rfl (Or.inl ⟨by rfl,fun W hW=>(by go_simp)⟩) (by assumption) ?_
   refine tkL (i:=11) (oi:=⟨some 36,_,_,_,_,_⟩) (v:=.slice (some ⟨b,o,none⟩) n pc) rfl (Or.inl ⟨by rfl,fun W hW=>(by obtain⟨x0,x1⟩:=HC.out W hW;go_simp)⟩) (by assumption) ?_
   refine tkL (i:=12) (oi:=⟨some 37,_,_,_,_,_⟩) (v:=.int .i64 (k:Int)) rfl (Or.inl ⟨by rfl,fun W hW=>(by rfl)⟩) (by assumption) ?_
   refine tkL (i:=13) (oi:=⟨some 38,_,_,_,_,_⟩) (v:=.int .i64 ((k:Int)+1)) rfl (Or.inl ⟨by rfl,fun W hW=>(by go_simp)⟩) (by assumption) ?_
   refine tkL (i:=14) (oi:=⟨some 39,_,_,_,_,_⟩) (v:=.slice DA (n-(k+1)) (pc-(k+1))) rfl (Or.inl ⟨by rfl,fun W hW=>(by have e:=HDA.out;go_simp)⟩) (by assumption) ?_
   refine wpAnyL_one (i:=7) (o:=⟨some 32,_,_,_,_,_⟩) (by kernel_rfl) rfl (fun K hK=>?_)
   rw[if_pos (by rfl)]
   refine wp_sl_appendA _ _ 74 74 rfl w0 78 ip (.agg #[.int .u32 0,.slice none 0 0,.bool false]) 3 40 Tryz.underlying74 hip hipz hips hipb rfl none 0 0 [] rfl (SL.nil _ _ _) (.slice (some ⟨b,o,none⟩) k pc) rfl k ((lp.take k).flatMap PE.cells) ((HS1.out.next hHeld).srcN Tryz.underlying74 (fun u hu=>PE.one hu)) (by unfold maxLen;omega) (by omega) (fun A8 c8 u2 hs8 hk8 ha8=>?_)
   have hb8:Below wr.heap.size wr u2:=KeepF.below hHeld hk8 (fun q ⟨a,ha,_⟩=>by cases ha) hHeld.size
   have ha8':∀a,A8=some a→w0.heap.size≤a.block:=fun a ha=>(ha8 a ha).elim (fun⟨a',h1,_⟩=>by cases h1) id
   rw[Nat.zero_add,List.nil_append]at hs8
   have hwz:=hHeld.size
   rw[Nat.zero_add]
   refine hK.out _ _ hb8 (fun hHeld=>?_)
   clear hK K hk8 ha8
   try simp only[Act.put,List.setIfInBounds_toArray,List.set_cons_zero,List.set_cons_succ]
   refine wpAnyL_one (i:=15) (o:=⟨some 40,_,_,_,_,_⟩) (by kernel_rfl) rfl (fun K hK=>?_)
   rw[if_pos (by rfl)]
   refine wp_sl_appendA _ _ 74 74 rfl u2 78 ip (.agg #[.int .u32 0,.slice none 0 0,.bool false]) 3 40 Tryz.underlying74 hip hipz hips hipb rfl A8 k c8 ((lp.take k).flatMap PE.cells) rfl hs8 (.slice DA (n-(k+1)) (pc-(k+1))) rfl (n-(k+1)) ((lp.drop (k+1)).flatMap PE.cells) ((HS2.out.next hHeld).srcN Tryz.underlying74 (fun u hu=>PE.one hu)) (by unfold maxLen;omega) (by omega) (fun A9 c9 u3 hs9 hk9 ha9=>?_)
   have hb9:Below wr.heap.size wr u3:=KeepF.below hHeld hk9 (fun q ⟨a,ha,e⟩=>by rw[e];exact Nat.le_trans hwz (ha8' a ha)) hHeld.size
   obtain⟨l,hl⟩:∃l:List PE,l=lp.take k++lp.drop (k+1):=⟨_,rfl⟩
   have hlen:l.length=k+(n-(k+1)):=by rw[hl,List.length_append,List.length_take,List.length_drop,←HLN.out];omega
   have hs10:SL u3 78 3 A9 l.length c9 (l.flatMap PE.cells):=by
    rw[hlen,hl,List.flatMap_append]
    exact hs9
   have hml:∀x,x∈l→x∈lp:=fun x hx=>by
    rw[hl]at hx
    rcases List.mem_append.1 hx with hx | hx
    ·exact List.mem_of_mem_take hx
    ·exact List.mem_of_mem_drop hx
   have hN:=HMR.out.newP (KeepF.of_below hb9) A9 c9 l hs10 (fun x hx=>HMR.out.pe x (hml x hx)) (fun x hx=>HMR.out.pr x.v (by rw[←HMR.out.pv];exact List.mem_map_of_mem (hml x hx))) (fun a ha=>by
    rcases ha9 a ha with ⟨a',e1,e2⟩ | h2
    ·exact .inr (by rw[e2];exact Nat.le_trans hwz (ha8' a' e1))
    ·exact .inr (Nat.le_trans hHeld.size h2))
   have hPV:l.map (·.v)=s.P.eraseIdx i:=by
    rw[hl,←HM.out.pv,List.eraseIdx_eq_take_drop_succ,HKI.out,List.map_append,List.map_take,List.map_drop]
   have hNQ:=(hN.2.comp (w:=w) (N:=uBlk h qA (some ⟨b,o,none⟩) uA) (KeepF.of_below HB.out) (fun q hq=>.inl hq))
   rw[hlen,hPV]at hNQ
   have HNQ:=zh hNQ
   have HB9:=zh hb9
   refine hK.out _ _ hb9 (fun hHeld=>?_)
   clear hK K hs9 hk9 ha9 hN hNQ hs10 hPV hml hlen hl hs8 ha8' hb8 hb9
   try simp only[Act.put,List.setIfInBounds_toArray,List.set_cons_zero,List.set_cons_succ]
   refine wpAnyL_one (i:=16) (o:=⟨some 41,_,_,_,_,_⟩) (by kernel_rfl) rfl (fun K hK=>?_)
   rw[if_pos (by rfl)]
   go_simp
   refine hK.out _ _ HB9.out (fun hHeld=>?_)
   clear hK K
   try simp only[Act.put,List.setIfInBounds_toArray,List.set_cons_zero,List.set_cons_succ]
   refine tkL (i:=17) (oi:=⟨some 42,_,_,_,_,_⟩) (v:=.pointer (some ⟨h,42,none⟩)) rfl (Or.inl ⟨by rfl,fun W hW=>(by go_simp)⟩) (by assumption) ?_
   refine wpAnyL_last (o:=⟨none,_,_,_,_,_⟩) (by kernel_rfl) (by kernel_rfl) rfl (fun K hK=>?_)
   rw[if_pos (by rfl)]
   obtain⟨x0,x1⟩:=HC.out u3 HB9.out
   go_simp
   clear x0 x1
   refine hK.out _ _ ?_
   clear hK K hHeld
   try simp only[Act.put]
   generalize u3.setCell ⟨h,42,none⟩ (.slice A9 (k+(n-(k+1))) c9)=V9 at HNQ ⊢
   go_wp2
   go_ret
   exact⟨rfl,HNQ.out⟩
theorem uconfirm_ok (m:UM w B h s qA qc lq pA pc lp uA uc ks) (hlp:lp.length≤1000000) (x:Int) (hx:0≤x∧x < 4294967296) :
  Calls Tryz.prog 26 #[.pointer (some ⟨h,0,none⟩),.int .u32 x] w fun e w'=>e=.returned (.int .i64 (s.confirmed x).1)∧UO w w' B h (s.confirmed x).2 (uBlk h qA pA uA):=by
 unfold TS.confirmed
 cases hfc:firstCt x s.P with
 | none=>exact(uconfirm_no m hlp x hx hfc).mono fun e w' ⟨he,hb⟩=>⟨he,(UO.same m).more hb⟩
 | some i=>exact uconfirm_yes m hlp x hx i hfc
end
end Go.Proofs.YtjanmleoomoedaaGreat
namespace Go.Proofs.YtjanmleoomoedaaGreat
open Go.RowKit
set_option linter.unusedVariables false
set_option linter.unusedSimpArgs false
attribute [local go_sem ↓] Go.wp_at_zero Go.wp_at_succ
theorem infoKeyU:∃i:TypeInfo,Tryz.prog.info? 23 = some i∧i.zero=some (.agg #[.int .u8 0,.int .u8 0,.int .u8 0,.int .u8 0,.int .u8 0,.int .u8 0,.int .u8 0,.int .u8 0,.int .u8 0,.int .u8 0,.int .u8 0,.int .u8 0,.int .u8 0,.int .u8 0,.int .u8 0,.int .u8 0])∧i.size=16∧i.bytes=16:=by
 have h:(Tryz.prog.info? 23).map (fun i=>(i.zero,i.size,i.bytes))=some (some (.agg #[.int .u8 0,.int .u8 0,.int .u8 0,.int .u8 0,.int .u8 0,.int .u8 0,.int .u8 0,.int .u8 0,.int .u8 0,.int .u8 0,.int .u8 0,.int .u8 0,.int .u8 0,.int .u8 0,.int .u8 0,.int .u8 0]),16,16):=by kernel_rfl
 cases hi:Tryz.prog.info? 23 with
 | none=>rw[hi]at h;cases h
 | some i=>
  rw[hi]at h
  simp only[Option.map_some,Option.some.injEq,Prod.mk.injEq]at h
  exact⟨i,rfl,h.1,h.2.1,h.2.2⟩
theorem uArr_keys (C:Cfg) (f c:Nat→Int) (now nx:Int) (q p u:Value):tsAll (tsAll (uArr C.arr now nx q p u) 2 (kArr f).toList) 18 (kArr c).toList=uArr (C.keys f c).arr now nx q p u:=by
 have l1:(kArr f).toList.length=16:=rfl
 have l2:(kArr c).toList.length=16:=rfl
 have hs:=uArr_size (now:=now) (nx:=nx) (q:=q) (p:=p) (u:=u) C.arr_size
 apply Array.ext_getElem?
 intro j
 by_cases h1:18≤j∧j < 34
 ·have:=tsAll_in (kArr c).toList 18 (tsAll (uArr C.arr now nx q p u) 2 (kArr f).toList) (j-18) (by omega) (by rw[tsAll_size,hs];omega)
  rw[show 18+(j-18)=j by omega]at this
  rw[this,Array.getElem?_toList,kArr_at c _ (by omega),uArr_low (C.keys f c).arr_size (by omega),Cfg.arr_at _ (by omega)]
  unfold Cfg.cell
  rw[if_neg (by omega),if_neg (by omega),if_neg (by omega),if_pos (by omega)]
  rfl
 ·rw[tsAll_out _ _ _ _ (by omega)]
  by_cases h2:2≤j∧j < 18
  ·have:=tsAll_in (kArr f).toList 2 (uArr C.arr now nx q p u) (j-2) (by omega) (by rw[hs];omega)
   rw[show 2+(j-2)=j by omega]at this
   rw[this,Array.getElem?_toList,kArr_at f _ (by omega),uArr_low (C.keys f c).arr_size (by omega),Cfg.arr_at _ (by omega)]
   unfold Cfg.cell
   rw[if_neg (by omega),if_neg (by omega),if_pos (by omega)]
   rfl
  ·rw[tsAll_out _ _ _ _ (by omega)]
   by_cases h3:j < 39
   ·rw[uArr_low C.arr_size h3,uArr_low (C.keys f c).arr_size h3,C.arr_at h3,Cfg.arr_at _ h3]
    unfold Cfg.cell Cfg.keys
    by_cases h4:j < 18
    ·have:j=0∨j=1:=by omega
     rcases this with rfl | rfl<;>rfl
    ·have:j=34∨j=35∨j=36∨j=37∨j=38:=by omega
     rcases this with rfl | rfl | rfl | rfl | rfl<;>rfl
   ·by_cases h4:j < 44
    ·have:=uArr_high (now:=now) (nx:=nx) (q:=q) (p:=p) (u:=u) C.arr_size (j-39)
     have h5:=uArr_high (now:=now) (nx:=nx) (q:=q) (p:=p) (u:=u) (C.keys f c).arr_size (j-39)
     rw[show 39+(j-39)=j by omega]at this h5
     rw[this,h5]
    ·rw[Array.getElem?_eq_none (by omega),Array.getElem?_eq_none (by rw[uArr_size (C.keys f c).arr_size];omega)]
section
variable {w w1 w' V:World} {B h:Nat} {s:TS} {qA:Option Addr} {qc:Nat} {lq:List WE} {pA:Option Addr} {pc:Nat} {lp:List PE} {uA:Option Addr} {uc:Nat} {ks:List (Nat→Int)} {F N N':Nat→Prop}
theorem UM.ucell (m:UM w B h s qA qc lq pA pc lp uA uc ks) {k:Nat} {g:Nat→Int} (hk:ks[k]? = some g):∃b o,uA=some ⟨b,o,none⟩∧b < w.heap.size∧w.rangeAt b (o+k*16) (kArr g).toList:=by
 have hlt:k < ks.length:=(List.getElem?_eq_some_iff.1 hk).1
 obtain⟨b,o,hA,hb⟩:=m.u.some_ (by omega)
 refine⟨b,o,hA,hb,fun j v hv=>?_⟩
 have hj:j < 16:=(List.getElem?_eq_some_iff.1 hv).1
 have:=m.u.cell hA (j:=k*16+j) (by have:=Nat.mul_le_mul_right 16 hlt;rw[Nat.succ_mul]at this;omega)
 rw[←Nat.add_assoc]at this
 rw[this,flat_at kCells 16 kCells_len ks k j g hk hj]
 exact hv
set_option maxRecDepth 100000 in
set_option maxHeartbeats 3200000 in
theorem ufresh_ok (m:UM w B h s qA qc lq pA pc lp uA uc ks) (hlu:ks.length≤1000000) (f:Nat→Int) :
  Calls Tryz.prog 28 #[.pointer (some ⟨h,0,none⟩),.agg (kArr f)] w fun e w'=>e=.returned (.bool (!hasKey f ks))∧Below w.heap.size w w':=by
 have HM:=zh m
 obtain⟨n,hn⟩:∃n,n=ks.length:=⟨_,rfl⟩
 have HLN:=zh hn
 have n9:n≤1000000:=by rw[hn];exact hlu
 have n0:(0:Int)≤(n:Int):=by omega
 have n91:(n:Int)≤1000000:=by omega
 have HEQ0:=zh (fun(g:Nat→Int) W=>k_eq g f 9998 W)
 have HSK:=zh (k_size f)
 have HUK:=zh Tryz.underlying23
 obtain⟨rr,hrr⟩:∃rr,rr = !hasKey f ks:=⟨_,rfl⟩
 rw[←hrr]
 have HRR:=zh hrr
 obtain⟨KF,hKF⟩:∃KF,KF=kArr f:=⟨_,rfl⟩
 rw[←hKF]at HEQ0 HSK ⊢
 clear m hn hlu hrr hKF
 go_enter Tryz.func28,Tryz.ntmps28
 go_upto_region 1 with (fail)
 obtain⟨kb,hkb⟩:∃kb,kb=w.heap.size:=⟨_,rfl⟩
 refine wp_let (fun V=>Blk V kb 23 KF∧Below w.heap.size w V) ⟨by rw[hkb];exact Blk.new _ _ _,(Below.refl _ w).alloc (Nat.le_refl _) _⟩ ?_
 rintro W1 ⟨b1,b2⟩
 have B1:=zh b1
 have B2:=zh b2
 rw[←hkb]
 clear b1 b2 hkb
 go_wp2
 go_loopw [5] (fun v5 wr=>∃k:Nat,k≤n∧v5=.int .i64 k∧(∀j g,j < k→ks[j]? = some g→keyEq g f=false)∧Below W1.heap.size W1 wr) (fun v5 _=>n+1-(intOf v5).toNat)
 case atStart=>exact⟨0,by omega,rfl,fun j g hj=>absurd hj (by omega),Below.refl _ _⟩
 case round=>
  obtain⟨k,hk,rfl,hall,hB⟩:=hrel
  have HALL:=zh hall
  have HB:=zh hB
  have HB2:=zh (B2.out.trans (hB.mono B2.out.size))
  have k0:(0:Int)≤(k:Int):=by omega
  have hMr:=HM.out.below HB2.out
  have y43:wr.cell? ⟨h,43,none⟩=some (.slice uA n uc):=by rw[HLN.out];exact hMr.cu
  clear hall
  by_cases hkn:k < n
  ·obtain⟨g,hg⟩:∃g,ks[k]? = some g:=⟨_,List.getElem?_eq_getElem (by rw[←HLN.out];exact hkn)⟩
   obtain⟨b,o,huA,hb,hrg⟩:=hMr.ucell hg
   subst huA
   have k1:(k:Int) < (n:Int):=by omega
   have HG:=zh hg
   have HEQ:=zh (HEQ0.out g)
   have HR1:=zh (show ∀W,Below wr.heap.size wr W→W.rangeAt b (o+k*16) (kArr g).toList∧W.cell? ⟨h,43,none⟩=some (.slice (some ⟨b,o,none⟩) n uc)from fun W hW=>⟨fun j x hx=>(hW.cell (p:=⟨b,o+k*16+j,none⟩) hb).trans (hrg j x hx),(hW.cell (p:=⟨h,43,none⟩) hMr.blk.lt).trans y43⟩)
   have HR2:=zh (show ∀W,Below wr.heap.size wr W→W.rangeAt kb 0 KF.toList from fun W hW=>((B1.out.below hB B1.out.lt).below hW (B1.out.below hB B1.out.lt).lt).range _ (by simp))
   have HSG:=zh (k_size g)
   obtain⟨KG,hKG⟩:∃KG,KG=kArr g:=⟨_,rfl⟩
   rw[←hKG]at HEQ HR1 HSG
   obtain⟨q,hq⟩:∃q,q=keyEq g f:=⟨_,rfl⟩
   rw[←hq]at HEQ
   have HQ:=zh hq
   clear hB hMr hg hrg hKG hq hb
   go_upto_region 4 with (fail)
   clear y43
   refine wp_region_held_drew (S:=fun w'=>Below wr.heap.size wr w') (by kernel_rfl) ((Below.refl _ wr).drew) (fun hHeld=>?_)
   obtain⟨u0,hu0⟩:∃u0,u0=wr.drew:=⟨_,rfl⟩
   rw[←hu0]
   rw[←hu0]at hHeld
   have HU0:=zh hHeld
   clear hu0
   refine tkH (i:=0) (oi:=⟨some 15,_,_,_,_,_⟩) (v:=.pointer (some ⟨h,0,none⟩)) rfl (Or.inl ⟨by rfl,fun W hW=>(by rfl)⟩) (by assumption) ?_
   refine tkH (i:=1) (oi:=⟨some 16,_,_,_,_,_⟩) (v:=.pointer (some ⟨h,0,none⟩)) rfl (Or.inl ⟨by rfl,fun W hW=>(by go_simp)⟩) (by assumption) ?_
   refine tkH (i:=2) (oi:=⟨some 17,_,_,_,_,_⟩) (v:=.pointer (some ⟨h,43,none⟩)) rfl (Or.inl ⟨by rfl,fun W hW=>(by go_simp)⟩) (by assumption) ?_
   refine tkH (i:=3) (oi:=⟨some 18,_,_,_,_,_⟩) (v:=.slice (some ⟨b,o,none⟩) n uc) rfl (Or.inl ⟨by rfl,fun W hW=>(by have:=(HR1.out W hW).2;go_simp)⟩) (by assumption) ?_
   refine tkH (i:=4) (oi:=⟨some 19,_,_,_,_,_⟩) (v:=.int .i64 (k:Int)) rfl (Or.inl ⟨by rfl,fun W hW=>(by rfl)⟩) (by assumption) ?_
   refine tkH (i:=5) (oi:=⟨some 20,_,_,_,_,_⟩) (v:=.pointer (some ⟨b,o+k*16,none⟩)) rfl (Or.inl ⟨by rfl,fun W hW=>(by go_simp)⟩) (by assumption) ?_
   refine' tkH (i:=6) (oi:=⟨some 21,_,_,_,_,_⟩) (v:=_) rfl (yieldsIf_load_mid (by rfl) _ _ rfl b (o+k*16) rfl KG.toList _ (fun W hW=>(HR1.out W hW).1) HUK.out rfl HSG.out) (by assumption) ?_
   refine' tkH (i:=7) (oi:=⟨some 22,_,_,_,_,_⟩) (v:=_) rfl (yieldsIf_load_mid (by rfl) _ _ rfl kb 0 rfl KF.toList _ (fun w h=>HR2.out w h) HUK.out rfl HSK.out) (by assumption) ?_
   refine tkH (i:=8) (oi:=⟨some 23,_,_,_,_,_⟩) (v:=.bool q) rfl (Or.inl ⟨by rfl,fun W hW=>(by have:=HEQ.out W;go_simp)⟩) (by assumption) ?_
   refine wpAnyH_done (by kernel_rfl) ?_ _
   have HBE:=zh (HB.out.trans (hHeld.mono HB.out.size))
   clear hHeld
   cases q
   ·go_wp2
    go_roundw
    case rel=>exact⟨k+1,by omega,by go_num,fun j g' hj hg'=>by
     by_cases e:j=k
     ·subst e
      rw[HG.out]at hg'
      cases hg'
      exact HQ.out.symm
     ·exact HALL.out j g' (by omega) hg',HBE.out⟩
    case measure=>simp[intOf];omega
   ·have HF:=zh (show false=rr by
     rw[HRR.out]
     have:hasKey f ks=true:=List.any_eq_true.2 ⟨g,List.mem_of_getElem? HG.out,keyEq_symm HQ.out.symm⟩
     rw[this]
     rfl)
    go_wp2
    go_ret
    exact⟨ret_bool HF.out,B2.out.trans (HBE.out.mono B2.out.size)⟩
  ·obtain rfl:n=k:=by omega
   have k1:¬(n:Int) < (n:Int):=by omega
   have HF:=zh (show true=rr by
    rw[HRR.out]
    have:hasKey f ks=false:=by
     unfold hasKey
     rw[List.any_eq_false]
     intro g hg
     obtain⟨j,hj⟩:=List.mem_iff_getElem?.1 hg
     have h1:=HALL.out j g (by rw[HLN.out];exact(List.getElem?_eq_some_iff.1 hj).1) hj
     intro h2
     rw[keyEq_symm h2]at h1
     cases h1
    rw[this]
    rfl)
   clear hB hkn hk hMr
   go_wp2
   go_ret
   exact⟨ret_bool HF.out,HB2.out⟩
end
end Go.Proofs.YtjanmleoomoedaaGreat

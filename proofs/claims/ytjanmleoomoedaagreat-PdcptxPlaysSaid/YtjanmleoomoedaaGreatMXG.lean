import Derived.Test.YtjanmleoomoedaaGreatMUB
namespace Go.Proofs.YtjanmleoomoedaaGreat
open Go.RowKit
set_option linter.unusedVariables false
attribute [local go_sem ↓] Go.wp_at_zero Go.wp_at_succ
private theorem zh {p:Prop} (h:p):Hid p:=h
theorem infoPendU:∃i:TypeInfo,Tryz.prog.info? 78 = some i∧i.zero=some (.agg #[.int .u32 0,.slice none 0 0,.bool false])∧i.size=3∧i.bytes=40:=by
 have h:(Tryz.prog.info? 78).map (fun i=>(i.zero,i.size,i.bytes))=some (some (.agg #[.int .u32 0,.slice none 0 0,.bool false]),3,40):=by kernel_rfl
 cases hi:Tryz.prog.info? 78 with
 | none=>rw[hi]at h;cases h
 | some i=>
  rw[hi]at h
  simp only[Option.map_some,Option.some.injEq,Prod.mk.injEq]at h
  exact⟨i,rfl,h.1,h.2.1,h.2.2⟩
section
variable {w w1 w' V:World} {B h:Nat} {s:TS} {qA:Option Addr} {qc:Nat} {lq:List WE} {pA:Option Addr} {pc:Nat} {lp:List PE} {uA:Option Addr} {uc:Nat} {ks:List (Nat→Int)} {F N N':Nat→Prop}
theorem UM.cpF (m:UM w B h s qA qc lq pA pc lp uA uc ks) (hk:KeepF (aBlk pA) w w1):w1.cell? ⟨h,42,none⟩=some (.slice pA lp.length pc)∧w1.frozen? ⟨h,42,none⟩=false:=
 ⟨((hk.blk m.blk (fun⟨a,ha,e⟩=>m.hp a ha e)).cell 42).trans (uArr_high s.C.arr_size 3),(hk.blk m.blk (fun⟨a,ha,e⟩=>m.hp a ha e)).frozen 42⟩
theorem UM.blkB (m:UM w B h s qA qc lq pA pc lp uA uc ks):∀k,uBlk h qA pA uA k→B≤k:=fun k hk=>by
 rcases hk with hk | ⟨a,ha,e⟩ | ⟨a,ha,e⟩ | ⟨a,ha,e⟩
 ·rw[hk];exact m.bh
 ·rw[e];exact m.bq a ha
 ·rw[e];exact m.bp a ha
 ·rw[e];exact m.bu a ha
set_option maxRecDepth 100000 in
set_option maxHeartbeats 6400000 in
theorem usend_none (m:UM w B h s qA qc lq pA pc lp uA uc ks) (hf:s.Fine) (hpdu:PduOK s.C) (hl:lq.length≤1000000) (hlp:lp.length≤1000000) (t:Int) (ht1:-9223372036854775808≤t) (ht2:t≤9223372036854775807) (ct:¬1073741824≤t) (hrep:firstRep s.P=none) (hq:(s.tick t).Q=[]) :
  Calls Tryz.prog 25 #[.pointer (some ⟨h,0,none⟩),.int .i64 t] w (USO w B h (uBlk h qA pA uA) (s.send t)):=by
 have HTK:=zh (utick_ok m hf hl t ht1 ht2)
 rw[if_neg ct,if_neg ct]at HTK
 have HF1:=zh (hf.tick t)
 have HRP:=zh hrep
 have HPL:Hid (s.P.length≤1000000):=zh (by rw[m.plen];exact hlp)
 have HQL:Hid ((s.tick t).Q.length≤1000000):=zh (Nat.le_trans (TS.tick_len s t) (by rw[m.qlen];exact hl))
 have HPO:=zh hpdu
 unfold TS.send
 rw[if_neg ct,hrep]
 dsimp only
 rw[hq]
 dsimp only
 have HQ0:=zh hq
 clear hq
 obtain⟨s1,hs1⟩:∃s1,s1=s.tick t:=⟨_,rfl⟩
 have HC1:Hid (s1.C=s.C):=zh (by rw[hs1];rfl)
 have HP1:Hid (s1.P=s.P):=zh (by rw[hs1];rfl)
 have HN1:Hid (s1.next=s.next):=zh (by rw[hs1];rfl)
 rw[←hs1]at HTK HQL HF1
 try rw[←hs1]
 have HS1:=zh hs1
 clear hs1 ct m hf hl hlp hrep hpdu
 obtain⟨n,hn⟩:∃n,n=lp.length:=⟨_,rfl⟩
 have HLN:=zh hn
 clear hn
 go_enter Tryz.func25,Tryz.ntmps25
 go_upto_region 4 with (go_at_call 49;refine(HTK.out).mono ?_;rintro e w1 ⟨rfl,qA1,qc1,lq1,m1,k1,a1⟩;have M1:=zh m1;have K1:=zh k1;have A1:=zh a1;clear m1 k1 a1)
 have hn9:(n:Int)≤1000000:=by have h1:=HPL.out;rw[←HP1.out,M1.out.plen,←HLN.out]at h1;omega
 have hn90:n≤1000000:=by omega
 have n0:(0:Int)≤(n:Int):=by omega
 have HFN:=zh (firstRep_none HRP.out)
 go_wp2
 go_loopw [8] (fun v8 wr=>∃k:Nat,k≤n∧v8=.int .i64 k∧Below w1.heap.size w1 wr) (fun v8 _=>n+1-(intOf v8).toNat)
 case atStart=>exact⟨0,by omega,rfl,Below.refl _ _⟩
 case round=>
  obtain⟨k,hk,rfl,hB⟩:=hrel
  have HB:=zh hB
  have k0:(0:Int)≤(k:Int):=by omega
  have y42:wr.cell? ⟨h,42,none⟩=some (.slice pA n pc):=by rw[HLN.out];exact(M1.out.below hB).cp
  by_cases hkn:k < n
  ·obtain⟨e,he⟩:∃e,lp[k]? = some e:=⟨_,List.getElem?_eq_getElem (by rw[←HLN.out];exact hkn)⟩
   obtain⟨b,o,hpA,hb,c0,c1,c2⟩:=(M1.out.below hB).pcell he
   have hPk:s.P[k]? = some e.v:=by rw[←HP1.out,←M1.out.pv,List.getElem?_map,he];rfl
   subst hpA
   have HE:=zh (And.intro he hPk)
   have k1:(k:Int) < (n:Int):=by omega
   have hr:e.v.rep=false:=HFN.out e.v (List.mem_of_getElem? hPk)
   rw[hr]at c2
   clear hB he hPk c0 c1 hr
   go_wp2
   go_roundw
   case rel=>exact⟨k+1,by omega,by go_num,HB.out⟩
   case measure=>simp[intOf];omega
  ·obtain rfl:n=k:=by omega
   have k1:¬(n:Int) < (n:Int):=by omega
   have HM:=zh (M1.out.below hB)
   have y41:=HM.out.cq
   obtain⟨q1,hq1⟩:∃q1,q1=lq1.length:=⟨_,rfl⟩
   have HQ1:=zh hq1
   have hq19:q1≤1000000:=by rw[hq1,←M1.out.qlen];exact HQL.out
   rw[←hq1]at y41
   have hU0:=zh (((UO.same M1.out).more HB.out).comp (K1.out.mono (fun b hb=>.inl hb)) (tick_blk A1.out))
   clear hB hq1 hkn hk
   obtain rfl:q1=0:=by
    rw[HQ1.out,←M1.out.qlen,HS1.out,HQ0.out]
    rfl
   go_wp2
   go_ret3
   exact uso_err hU0.out 10
set_option maxRecDepth 100000 in
set_option maxHeartbeats 6400000 in
theorem usend_used (m:UM w B h s qA qc lq pA pc lp uA uc ks) (hf:s.Fine) (hpdu:PduOK s.C) (hl:lq.length≤1000000) (hlp:lp.length≤1000000) (t:Int) (ht1:-9223372036854775808≤t) (ht2:t≤9223372036854775807) (ct:¬1073741824≤t) (hrep:firstRep s.P=none) (q:QV) (r:List QV) (hq:(s.tick t).Q=q :: r) (hnx:s.next=4294967296) :
  Calls Tryz.prog 25 #[.pointer (some ⟨h,0,none⟩),.int .i64 t] w (USO w B h (uBlk h qA pA uA) (s.send t)):=by
 have HTK:=zh (utick_ok m hf hl t ht1 ht2)
 rw[if_neg ct,if_neg ct]at HTK
 have HF1:=zh (hf.tick t)
 have HRP:=zh hrep
 have HPL:Hid (s.P.length≤1000000):=zh (by rw[m.plen];exact hlp)
 have HQL:Hid ((s.tick t).Q.length≤1000000):=zh (Nat.le_trans (TS.tick_len s t) (by rw[m.qlen];exact hl))
 have HPO:=zh hpdu
 unfold TS.send
 rw[if_neg ct,hrep]
 dsimp only
 rw[hq]
 dsimp only
 rw[if_pos hnx]
 have HQ0:=zh hq
 have HNX:=zh hnx
 clear hq hnx
 obtain⟨s1,hs1⟩:∃s1,s1=s.tick t:=⟨_,rfl⟩
 have HC1:Hid (s1.C=s.C):=zh (by rw[hs1];rfl)
 have HP1:Hid (s1.P=s.P):=zh (by rw[hs1];rfl)
 have HN1:Hid (s1.next=s.next):=zh (by rw[hs1];rfl)
 rw[←hs1]at HTK HQL HF1
 try rw[←hs1]
 have HS1:=zh hs1
 clear hs1 ct m hf hl hlp hrep hpdu
 obtain⟨n,hn⟩:∃n,n=lp.length:=⟨_,rfl⟩
 have HLN:=zh hn
 clear hn
 go_enter Tryz.func25,Tryz.ntmps25
 go_upto_region 4 with (go_at_call 49;refine(HTK.out).mono ?_;rintro e w1 ⟨rfl,qA1,qc1,lq1,m1,k1,a1⟩;have M1:=zh m1;have K1:=zh k1;have A1:=zh a1;clear m1 k1 a1)
 have hn9:(n:Int)≤1000000:=by have h1:=HPL.out;rw[←HP1.out,M1.out.plen,←HLN.out]at h1;omega
 have hn90:n≤1000000:=by omega
 have n0:(0:Int)≤(n:Int):=by omega
 have HFN:=zh (firstRep_none HRP.out)
 go_wp2
 go_loopw [8] (fun v8 wr=>∃k:Nat,k≤n∧v8=.int .i64 k∧Below w1.heap.size w1 wr) (fun v8 _=>n+1-(intOf v8).toNat)
 case atStart=>exact⟨0,by omega,rfl,Below.refl _ _⟩
 case round=>
  obtain⟨k,hk,rfl,hB⟩:=hrel
  have HB:=zh hB
  have k0:(0:Int)≤(k:Int):=by omega
  have y42:wr.cell? ⟨h,42,none⟩=some (.slice pA n pc):=by rw[HLN.out];exact(M1.out.below hB).cp
  by_cases hkn:k < n
  ·obtain⟨e,he⟩:∃e,lp[k]? = some e:=⟨_,List.getElem?_eq_getElem (by rw[←HLN.out];exact hkn)⟩
   obtain⟨b,o,hpA,hb,c0,c1,c2⟩:=(M1.out.below hB).pcell he
   have hPk:s.P[k]? = some e.v:=by rw[←HP1.out,←M1.out.pv,List.getElem?_map,he];rfl
   subst hpA
   have HE:=zh (And.intro he hPk)
   have k1:(k:Int) < (n:Int):=by omega
   have hr:e.v.rep=false:=HFN.out e.v (List.mem_of_getElem? hPk)
   rw[hr]at c2
   clear hB he hPk c0 c1 hr
   go_wp2
   go_roundw
   case rel=>exact⟨k+1,by omega,by go_num,HB.out⟩
   case measure=>simp[intOf];omega
  ·obtain rfl:n=k:=by omega
   have k1:¬(n:Int) < (n:Int):=by omega
   have HM:=zh (M1.out.below hB)
   have y41:=HM.out.cq
   obtain⟨q1,hq1⟩:∃q1,q1=lq1.length:=⟨_,rfl⟩
   have HQ1:=zh hq1
   have hq19:q1≤1000000:=by rw[hq1,←M1.out.qlen];exact HQL.out
   rw[←hq1]at y41
   have hU0:=zh (((UO.same M1.out).more HB.out).comp (K1.out.mono (fun b hb=>.inl hb)) (tick_blk A1.out))
   clear hB hq1 hkn hk
   have hq1:1≤q1:=by
    rw[HQ1.out,←M1.out.qlen,HS1.out,HQ0.out,List.length_cons]
    omega
   have q0:¬((q1:Int)=0):=by omega
   have y40:=HM.out.cnext
   rw[HN1.out,HNX.out]at y40
   go_wp2
   go_ret3
   exact uso_err hU0.out 460
set_option maxRecDepth 100000 in
set_option maxHeartbeats 6400000 in
theorem usend_full (m:UM w B h s qA qc lq pA pc lp uA uc ks) (hf:s.Fine) (hpdu:PduOK s.C) (hl:lq.length≤1000000) (hlp:lp.length≤1000000) (t:Int) (ht1:-9223372036854775808≤t) (ht2:t≤9223372036854775807) (ct:¬1073741824≤t) (hrep:firstRep s.P=none) (q:QV) (r:List QV) (hq:(s.tick t).Q=q :: r) (hnx:s.next ≠ 4294967296) (hfu:s.full=true) (hfi:∃p r,s.P=p :: r∧s.next-p.ct=2048) :
  Calls Tryz.prog 25 #[.pointer (some ⟨h,0,none⟩),.int .i64 t] w (USO w B h (uBlk h qA pA uA) (s.send t)):=by
 have HTK:=zh (utick_ok m hf hl t ht1 ht2)
 rw[if_neg ct,if_neg ct]at HTK
 have HF1:=zh (hf.tick t)
 have HRP:=zh hrep
 have HPL:Hid (s.P.length≤1000000):=zh (by rw[m.plen];exact hlp)
 have HQL:Hid ((s.tick t).Q.length≤1000000):=zh (Nat.le_trans (TS.tick_len s t) (by rw[m.qlen];exact hl))
 have HPO:=zh hpdu
 unfold TS.send
 rw[if_neg ct,hrep]
 dsimp only
 rw[hq]
 dsimp only
 rw[if_neg hnx,if_pos hfu]
 have HQ0:=zh hq
 have HNX:=zh hnx
 have HFI:=zh hfi
 clear hq hnx hfu hfi
 obtain⟨s1,hs1⟩:∃s1,s1=s.tick t:=⟨_,rfl⟩
 have HC1:Hid (s1.C=s.C):=zh (by rw[hs1];rfl)
 have HP1:Hid (s1.P=s.P):=zh (by rw[hs1];rfl)
 have HN1:Hid (s1.next=s.next):=zh (by rw[hs1];rfl)
 rw[←hs1]at HTK HQL HF1
 try rw[←hs1]
 have HS1:=zh hs1
 clear hs1 ct m hf hl hlp hrep hpdu
 obtain⟨n,hn⟩:∃n,n=lp.length:=⟨_,rfl⟩
 have HLN:=zh hn
 clear hn
 go_enter Tryz.func25,Tryz.ntmps25
 go_upto_region 4 with (go_at_call 49;refine(HTK.out).mono ?_;rintro e w1 ⟨rfl,qA1,qc1,lq1,m1,k1,a1⟩;have M1:=zh m1;have K1:=zh k1;have A1:=zh a1;clear m1 k1 a1)
 have hn9:(n:Int)≤1000000:=by have h1:=HPL.out;rw[←HP1.out,M1.out.plen,←HLN.out]at h1;omega
 have hn90:n≤1000000:=by omega
 have n0:(0:Int)≤(n:Int):=by omega
 have HFN:=zh (firstRep_none HRP.out)
 go_wp2
 go_loopw [8] (fun v8 wr=>∃k:Nat,k≤n∧v8=.int .i64 k∧Below w1.heap.size w1 wr) (fun v8 _=>n+1-(intOf v8).toNat)
 case atStart=>exact⟨0,by omega,rfl,Below.refl _ _⟩
 case round=>
  obtain⟨k,hk,rfl,hB⟩:=hrel
  have HB:=zh hB
  have k0:(0:Int)≤(k:Int):=by omega
  have y42:wr.cell? ⟨h,42,none⟩=some (.slice pA n pc):=by rw[HLN.out];exact(M1.out.below hB).cp
  by_cases hkn:k < n
  ·obtain⟨e,he⟩:∃e,lp[k]? = some e:=⟨_,List.getElem?_eq_getElem (by rw[←HLN.out];exact hkn)⟩
   obtain⟨b,o,hpA,hb,c0,c1,c2⟩:=(M1.out.below hB).pcell he
   have hPk:s.P[k]? = some e.v:=by rw[←HP1.out,←M1.out.pv,List.getElem?_map,he];rfl
   subst hpA
   have HE:=zh (And.intro he hPk)
   have k1:(k:Int) < (n:Int):=by omega
   have hr:e.v.rep=false:=HFN.out e.v (List.mem_of_getElem? hPk)
   rw[hr]at c2
   clear hB he hPk c0 c1 hr
   go_wp2
   go_roundw
   case rel=>exact⟨k+1,by omega,by go_num,HB.out⟩
   case measure=>simp[intOf];omega
  ·obtain rfl:n=k:=by omega
   have k1:¬(n:Int) < (n:Int):=by omega
   have HM:=zh (M1.out.below hB)
   have y41:=HM.out.cq
   obtain⟨q1,hq1⟩:∃q1,q1=lq1.length:=⟨_,rfl⟩
   have HQ1:=zh hq1
   have hq19:q1≤1000000:=by rw[hq1,←M1.out.qlen];exact HQL.out
   rw[←hq1]at y41
   have hU0:=zh (((UO.same M1.out).more HB.out).comp (K1.out.mono (fun b hb=>.inl hb)) (tick_blk A1.out))
   clear hB hq1 hkn hk
   have hq1:1≤q1:=by
    rw[HQ1.out,←M1.out.qlen,HS1.out,HQ0.out,List.length_cons]
    omega
   have q0:¬((q1:Int)=0):=by omega
   have y40:=HM.out.cnext
   have hn0:=HM.out.next0
   obtain⟨nx,hnx⟩:∃nx,nx=s1.next:=⟨_,rfl⟩
   have HX:=zh hnx
   rw[←hnx]at y40 hn0
   have x0:¬nx=4294967296:=by rw[hnx,HN1.out];exact HNX.out
   have hn1:0 < n:=by
    obtain⟨p,r,e,_⟩:=HFI.out
    rw[HLN.out,←M1.out.plen,HP1.out,e]
    simp
   obtain⟨p0,hp0⟩:∃p0,lp[0]? = some p0:=⟨lp[0]'(by rw[←HLN.out];exact hn1),List.getElem?_eq_getElem _⟩
   obtain⟨b,o,hpA,hbl,d0,d1,d2⟩:=HM.out.pcell hp0
   subst hpA
   rw[Nat.zero_mul,Nat.add_zero]at d0
   obtain⟨y,hy⟩:∃y,y=p0.v.ct:=⟨_,rfl⟩
   have hyr:=HM.out.pr p0.v (by rw[←HM.out.pv];exact List.mem_map_of_mem (List.mem_of_getElem? hp0))
   have hP0:s.P[0]? = some p0.v:=by rw[←HP1.out,←M1.out.pv,List.getElem?_map,hp0];rfl
   have HP0:=zh hP0
   rw[←hy]at d0 hyr
   have hwr:IntKind.u64.wrap (nx-y)=2048↔nx-y=2048:=by rw[IntKind.wrap_u64];omega
   have HWR:=zh hwr
   have HY:=zh hy
   have m0:(0:Int) < (n:Int):=by omega
   have dm:decide ((0:Int) < (n:Int))=true:=decide_eq_true m0
   clear hwr hy hp0 d1 d2 hP0
   have hfl:(IntKind.u64.wrap (nx-y) == 2048)=true:=by
    rw[beq_iff_eq,HWR.out,HX.out,HN1.out,HY.out]
    obtain⟨p,r,e,h1⟩:=HFI.out
    have h2:=HP0.out
    rw[e]at h2
    cases h2
    exact h1
   clear hnx
   go_upto_region 14 with (fail)
   go_quiet (fail)
   go_wp2
   go_ret3
   exact uso_err (hU0.out.more (below_drewN (Below.refl _ _) _)) 7
set_option maxRecDepth 100000 in
set_option maxHeartbeats 6400000 in
theorem usend_good (m:UM w B h s qA qc lq pA pc lp uA uc ks) (hf:s.Fine) (hpdu:PduOK s.C) (hl:lq.length≤1000000) (hlp:lp.length≤1000000) (t:Int) (ht1:-9223372036854775808≤t) (ht2:t≤9223372036854775807) (ct:¬1073741824≤t) (hrep:firstRep s.P=none) (q:QV) (r:List QV) (hq:(s.tick t).Q=q :: r) (hnx:s.next ≠ 4294967296) (hfu:¬s.full=true) (hfi:∀p r,s.P=p :: r→s.next-p.ct ≠ 2048) :
  Calls Tryz.prog 25 #[.pointer (some ⟨h,0,none⟩),.int .i64 t] w (USO w B h (uBlk h qA pA uA) (s.send t)):=by
 have HTK:=zh (utick_ok m hf hl t ht1 ht2)
 rw[if_neg ct,if_neg ct]at HTK
 have HF1:=zh (hf.tick t)
 have HRP:=zh hrep
 have HPL:Hid (s.P.length≤1000000):=zh (by rw[m.plen];exact hlp)
 have HQL:Hid ((s.tick t).Q.length≤1000000):=zh (Nat.le_trans (TS.tick_len s t) (by rw[m.qlen];exact hl))
 have HPO:=zh hpdu
 unfold TS.send
 rw[if_neg ct,hrep]
 dsimp only
 rw[hq]
 dsimp only
 rw[if_neg hnx,if_neg hfu]
 obtain⟨XE,hXE⟩:∃XE:NX,XE=⟨pduN s.C q.n,pduZ s.C s.next.toNat q.n (nf q.z),s.next,0,{ s.tick t with Q:=r,next:=s.next+1,P:=if s.C.ac=true then s.P++[⟨s.next,q.n,q.z,false⟩] else s.P }⟩:=⟨_,rfl⟩
 rw[←hXE]
 have HXE:=zh hXE
 clear hXE
 have HQ0:=zh hq
 have HNX:=zh hnx
 have HFI:=zh hfi
 clear hq hnx hfu hfi
 obtain⟨s1,hs1⟩:∃s1,s1=s.tick t:=⟨_,rfl⟩
 have HC1:Hid (s1.C=s.C):=zh (by rw[hs1];rfl)
 have HP1:Hid (s1.P=s.P):=zh (by rw[hs1];rfl)
 have HN1:Hid (s1.next=s.next):=zh (by rw[hs1];rfl)
 rw[←hs1]at HTK HQL HF1
 try rw[←hs1]
 have HS1:=zh hs1
 clear hs1 ct m hf hl hlp hrep hpdu
 obtain⟨n,hn⟩:∃n,n=lp.length:=⟨_,rfl⟩
 have HLN:=zh hn
 clear hn
 go_enter Tryz.func25,Tryz.ntmps25
 go_upto_region 4 with (go_at_call 49;refine(HTK.out).mono ?_;rintro e w1 ⟨rfl,qA1,qc1,lq1,m1,k1,a1⟩;have M1:=zh m1;have K1:=zh k1;have A1:=zh a1;clear m1 k1 a1)
 have hn9:(n:Int)≤1000000:=by have h1:=HPL.out;rw[←HP1.out,M1.out.plen,←HLN.out]at h1;omega
 have hn90:n≤1000000:=by omega
 have n0:(0:Int)≤(n:Int):=by omega
 have HFN:=zh (firstRep_none HRP.out)
 go_wp2
 go_loopw [8] (fun v8 wr=>∃k:Nat,k≤n∧v8=.int .i64 k∧Below w1.heap.size w1 wr) (fun v8 _=>n+1-(intOf v8).toNat)
 case atStart=>exact⟨0,by omega,rfl,Below.refl _ _⟩
 case round=>
  obtain⟨k,hk,rfl,hB⟩:=hrel
  have HB:=zh hB
  have k0:(0:Int)≤(k:Int):=by omega
  have y42:wr.cell? ⟨h,42,none⟩=some (.slice pA n pc):=by rw[HLN.out];exact(M1.out.below hB).cp
  by_cases hkn:k < n
  ·obtain⟨e,he⟩:∃e,lp[k]? = some e:=⟨_,List.getElem?_eq_getElem (by rw[←HLN.out];exact hkn)⟩
   obtain⟨b,o,hpA,hb,c0,c1,c2⟩:=(M1.out.below hB).pcell he
   have hPk:s.P[k]? = some e.v:=by rw[←HP1.out,←M1.out.pv,List.getElem?_map,he];rfl
   subst hpA
   have HE:=zh (And.intro he hPk)
   have k1:(k:Int) < (n:Int):=by omega
   have hr:e.v.rep=false:=HFN.out e.v (List.mem_of_getElem? hPk)
   rw[hr]at c2
   clear hB he hPk c0 c1 hr
   go_wp2
   go_roundw
   case rel=>exact⟨k+1,by omega,by go_num,HB.out⟩
   case measure=>simp[intOf];omega
  ·obtain rfl:n=k:=by omega
   have k1:¬(n:Int) < (n:Int):=by omega
   have HM:=zh (M1.out.below hB)
   have y41:=HM.out.cq
   obtain⟨q1,hq1⟩:∃q1,q1=lq1.length:=⟨_,rfl⟩
   have HQ1:=zh hq1
   have hq19:q1≤1000000:=by rw[hq1,←M1.out.qlen];exact HQL.out
   rw[←hq1]at y41
   have hU0:=zh (((UO.same M1.out).more HB.out).comp (K1.out.mono (fun b hb=>.inl hb)) (tick_blk A1.out))
   clear hB hq1 hkn hk
   have hq1:1≤q1:=by
    rw[HQ1.out,←M1.out.qlen,HS1.out,HQ0.out,List.length_cons]
    omega
   have q0:¬((q1:Int)=0):=by omega
   have y40:=HM.out.cnext
   have hn0:=HM.out.next0
   obtain⟨nx,hnx⟩:∃nx,nx=s1.next:=⟨_,rfl⟩
   have HX:=zh hnx
   rw[←hnx]at y40 hn0
   have x0:¬nx=4294967296:=by rw[hnx,HN1.out];exact HNX.out
   have HX0:=zh x0
   by_cases hn1:0 < n
   ·obtain⟨p0,hp0⟩:∃p0,lp[0]? = some p0:=⟨lp[0]'(by rw[←HLN.out];exact hn1),List.getElem?_eq_getElem _⟩
    obtain⟨b,o,hpA,hbl,d0,d1,d2⟩:=HM.out.pcell hp0
    subst hpA
    rw[Nat.zero_mul,Nat.add_zero]at d0
    obtain⟨y,hy⟩:∃y,y=p0.v.ct:=⟨_,rfl⟩
    have hyr:=HM.out.pr p0.v (by rw[←HM.out.pv];exact List.mem_map_of_mem (List.mem_of_getElem? hp0))
    have hP0:s.P[0]? = some p0.v:=by rw[←HP1.out,←M1.out.pv,List.getElem?_map,hp0];rfl
    have HP0:=zh hP0
    rw[←hy]at d0 hyr
    have hwr:IntKind.u64.wrap (nx-y)=2048↔nx-y=2048:=by rw[IntKind.wrap_u64];omega
    have HWR:=zh hwr
    have HY:=zh hy
    have m0:(0:Int) < (n:Int):=by omega
    have dm:decide ((0:Int) < (n:Int))=true:=decide_eq_true m0
    clear hwr hy hp0 d1 d2 hP0
    have hfl:(IntKind.u64.wrap (nx-y) == 2048)=false:=by
     rw[beq_eq_false_iff_ne]
     intro h1
     rw[HWR.out,HX.out,HN1.out,HY.out]at h1
     have h2:=HP0.out
     cases hP:s.P with
     | nil=>rw[hP]at h2;cases h2
     | cons p r=>
      rw[hP]at h2
      cases h2
      exact HFI.out _ _ hP h1
    clear hnx
    go_upto_region 14 with (fail)
    go_quiet (fail)
    go_upto_region 16 with (fail)
    refine wp_let (fun V=>UM V B h s1 qA1 qc1 lq1 (some ⟨b,o,none⟩) pc lp uA uc ks∧Below w1.heap.size w1 V) ⟨HM.out.below (below_drewN (Below.refl _ _) _),below_drewN HB.out _⟩ ?_
    rintro V ⟨v1,v2⟩
    have TV:=zh v1
    have BV:=zh v2
    have y40:=v1.cnext
    have y41:=v1.cq
    rw[←HQ1.out]at y41
    rw[←HX.out]at y40
    obtain⟨e0,he0⟩:∃e0,lq1[0]? = some e0:=⟨lq1[0]'(by rw[←HQ1.out];exact hq1),List.getElem?_eq_getElem _⟩
    obtain⟨b2,o2,hqA,hb2,k0',k1'⟩:=v1.qcell he0
    subst hqA
    rw[Nat.zero_mul,Nat.add_zero]at k0'
    have HE0:=zh he0
    have hpk:=M1.out.qe e0 (List.mem_of_getElem? he0)
    obtain⟨PA,hPA⟩:∃PA,PA=e0.A:=⟨_,rfl⟩
    obtain⟨pn,hpn⟩:∃pn,pn=e0.v.n:=⟨_,rfl⟩
    obtain⟨pz,hpz⟩:∃pz,pz=e0.v.z:=⟨_,rfl⟩
    obtain⟨pcc,hpcc⟩:∃pcc,pcc=e0.c:=⟨_,rfl⟩
    rw[←hPA,←hpn,←hpz,←hpcc]at hpk
    rw[←hPA,←hpn,←hpcc]at k0'
    have PK:=zh hpk
    have HEA:=zh (And.intro hPA (And.intro hpn (And.intro hpz hpcc)))
    have HEQ:Hid (e0.v=q∧(lq1.drop 1).map (·.v)=r):=zh (by
     have hh:=M1.out.qv
     rw[HS1.out,HQ0.out]at hh
     cases lq1 with
     | nil=>cases hh
     | cons x l=>
      have:x=e0:=by simpa using HE0.out
      subst this
      injection hh with h1 h2
      exact⟨h1,h2⟩)
    have n32:nx % 4294967296=nx:=by omega
    have n33:IntKind.u32.wrap nx=nx:=by rw[IntKind.wrap_u32];omega
    have HNR:=zh (show 0≤nx∧nx < 4294967296 by omega)
    clear he0 hPA hpn hpz hpcc hpk k1' v1 v2
    go_quiet (fail)
    go_upto_region 17 with (fail)
    refine wp_let (fun X=>UM X B h s1 (some ⟨b2,o2,none⟩) qc1 lq1 (some ⟨b,o,none⟩) pc lp uA uc ks∧Below w1.heap.size w1 X) ⟨TV.out.below (below_drewN (Below.refl _ _) _),below_drewN BV.out _⟩ ?_
    rintro X ⟨v1,v2⟩
    have TX:=zh v1
    have KX:=zh (show KeepF (uBlk h (some ⟨b2,o2,none⟩) (some ⟨b,o,none⟩) uA) w1 X from KeepF.of_below v2)
    have y41:=v1.cq
    rw[←HQ1.out]at y41
    have f41:=v1.blk.frozen 41
    have hqm:=v1.q.cmax
    have hqle:=v1.q.le
    rw[←HQ1.out]at hqle
    unfold maxLen at hqm
    have q2:(1:Int)≤(q1:Int):=by omega
    have q3:(q1:Int)≤(qc1:Int):=by omega
    have q4:(qc1:Int)≤9223372036854775807:=by omega
    obtain⟨QA,hQA⟩:∃QA:Option Addr,QA=if qc1=1 then some ⟨b2,o2,none⟩ else some ⟨b2,o2+2,none⟩:=⟨_,rfl⟩
    have HQAB:=zh (show ∀a,QA=some a→a.block=b2 from fun a ha=>by rw[hQA]at ha;split at ha<;>(cases ha;rfl))
    have hdl:(lq1.drop 1).length=q1-1:=by rw[List.length_drop,←HQ1.out]
    have S4:SL X 80 2 QA (lq1.drop 1).length (qc1-1) ((lq1.drop 1).flatMap WE.cells):=by
     have hh:=v1.q.drop 1 (by rw[←HQ1.out];exact hq1)
     rw[drop_flatW,Nat.one_mul,←hQA,←HQ1.out,←hdl]at hh
     exact hh
    have T4:=(v1.newQ (w1:=X) KeepF.refl QA (qc1-1) (lq1.drop 1) S4 (fun e he=>v1.qe e (List.mem_of_mem_drop he)) (fun a ha=>.inl ⟨_,rfl,HQAB.out a ha⟩)).1
    rw[hdl,HEQ.out.2]at T4
    have K4:KeepF (uBlk h (some ⟨b2,o2,none⟩) (some ⟨b,o,none⟩) uA) w1 (X.setCell ⟨h,41,none⟩ (.slice QA (q1-1) (qc1-1))):=KX.out.setCell (p:=⟨h,41,none⟩) (.inl rfl) _
    clear v1 v2 k0'
    go_upto_region 18 with (fail)
    rw[←hQA]
    refine wp_let (fun Y=>UM Y B h { s1 with Q:=r } QA (qc1-1) (lq1.drop 1) (some ⟨b,o,none⟩) pc lp uA uc ks∧KeepF (uBlk h (some ⟨b2,o2,none⟩) (some ⟨b,o,none⟩) uA) w1 Y) ⟨T4,K4⟩ ?_
    rintro X4 ⟨x1,x2⟩
    have TX4:=zh x1
    have KX4:=zh x2
    clear S4 T4 K4 hQA hdl y41 f41 hqm q3 q4 y40
    have y40:=x1.cnext
    rw[show({ s1 with Q:=r }:TS).next=s1.next from rfl,←HX.out]at y40
    have f40:=x1.blk.frozen 40
    have T5:=x1.setNext (nx+1) (by omega)
    have K5:KeepF (uBlk h (some ⟨b2,o2,none⟩) (some ⟨b,o,none⟩) uA) w1 (X4.setCell ⟨h,40,none⟩ (.int .u64 (nx+1))):=x2.setCell (p:=⟨h,40,none⟩) (.inl rfl) _
    have w64:IntKind.u64.wrap (nx+1)=nx+1:=by rw[IntKind.wrap_u64];omega
    clear x1 x2
    go_upto_region 19 with (fail)
    refine wp_let (fun Y=>UM Y B h { s1 with Q:=r,next:=nx+1 } QA (qc1-1) (lq1.drop 1) (some ⟨b,o,none⟩) pc lp uA uc ks∧KeepF (uBlk h (some ⟨b2,o2,none⟩) (some ⟨b,o,none⟩) uA) w1 Y) ⟨T5,K5⟩ ?_
    rintro X5 ⟨x1,x2⟩
    have TX5:=zh x1
    have KX5:=zh x2
    clear T5 K5 y40 f40 w64
    have HUP:=zh Tryz.underlying25
    have HSP:Hid ((Tryz.prog.info? 25).map (·.size)=some s.C.arr.toList.length):=zh (by rw[Array.length_toList,s.C.arr_size];exact infoPd)
    have HB0:=zh (show ∀k,uBlk h (some ⟨b2,o2,none⟩) (some ⟨b,o,none⟩) uA k→B≤k from M1.out.blkB)
    have HPD:=zh (show ∀W,KeepF (uBlk h (some ⟨b2,o2,none⟩) (some ⟨b,o,none⟩) uA) w1 W→_ from fun W hW=>HPO.out nx HNR.out W B PA pn pcc pz (PK.out.keepF hW M1.out.bw HB0.out) (Nat.le_trans M1.out.bw hW.size))
    have HCR:=zh (show ∀W s2 qA2 qc2 lq2 pA2 pc2 lp2 uA2 uc2 ks2,UM W B h s2 qA2 qc2 lq2 pA2 pc2 lp2 uA2 uc2 ks2→s2.C=s.C→W.rangeAt h 0 s.C.arr.toList from fun W s2 qA2 qc2 lq2 pA2 pc2 lp2 uA2 uc2 ks2 hm hC j v hv=>by
     have hj:j < 39:=by have:=(List.getElem?_eq_some_iff.1 hv).1;simpa[Cfg.arr_size]using this
     rw[Nat.zero_add,hm.blk.cell j,uArr_low (Cfg.arr_size _) hj,←hv,Array.getElem?_toList,hC])
    obtain⟨CA,hCA⟩:∃CA,CA=s.C.arr:=⟨_,rfl⟩
    rw[←hCA]at HSP HPD HCR
    have HEND:=zh (show XE=⟨pduN s.C pn,pduZ s.C nx.toNat pn (nf pz),nx,0,{ s1 with Q:=r,next:=nx+1,P:=if s.C.ac=true then s.P++[⟨nx,pn,pz,false⟩] else s.P }⟩ by rw[HXE.out,HEA.out.2.1,HEA.out.2.2.1,HEQ.out.1,HX.out,HN1.out,HS1.out])
    have x36:X5.cell? ⟨h,36,none⟩=some (.bool s.C.ac):=(x1.cC (j:=36) (by decide)).trans (by rw[show({ s1 with Q:=r,next:=nx+1 }:TS).C=s1.C from rfl,HC1.out];rfl)
    clear x1 x2 hCA
    by_cases hac:s.C.ac=true
    ·rw[hac]at x36
     have HAC:=zh hac
     clear hac
     have y42:=TX5.out.cp
     rw[←HLN.out]at y42
     have f42:=TX5.out.blk.frozen 42
     obtain⟨ip,hip,hipz,hips,hipb⟩:=infoPendU
     obtain⟨X6,hX6⟩:∃X6,X6=X5.alloc (.cells #[.int .u32 nx,.slice PA pn pcc,.bool false] 78):=⟨_,rfl⟩
     have hb6:Below X5.heap.size X5 X6:=by rw[hX6];exact(Below.refl _ _).alloc (Nat.le_refl _) _
     have HX6:=zh hX6
     have HB6:=zh hb6
     have hNB:Blk X6 X5.heap.size 78 #[.int .u32 nx,.slice PA pn pcc,.bool false]:=by rw[hX6];exact Blk.new _ _ _
     have HSRC:Hid (Src Tryz.prog 3 74 (.slice (some ⟨X5.heap.size,0,none⟩) 1 1) 1 [.int .u32 nx,.slice PA pn pcc,.bool false] X6):=zh (Src.ofSlice _ Tryz.underlying74 ⟨X5.heap.size,0,none⟩ 1 1 _ rfl (fun j u hu=>by
      have hj:j < 3:=(List.getElem?_eq_some_iff.1 hu).1
      rw[Addr.add_lit,Nat.zero_add,hNB.cell j]
      simpa using hu) (by simp[Value.oneCell']))
     have HSL6:Hid (SL X6 78 3 (some ⟨b,o,none⟩) n pc (lp.flatMap PE.cells)):=zh (by rw[HLN.out];exact TX5.out.p.next hb6)
     have HM6:Hid (n≤1000000):=zh hn90
     clear hNB hX6 hb6
     go_upto_region 21 with (rw[←HX6.out];refine wpList_sl_append rfl _ _ 74 74 rfl X6 78 ip (.agg #[.int .u32 0,.slice none 0 0,.bool false]) 3 40 Tryz.underlying74 hip hipz hips hipb rfl (some ⟨b,o,none⟩) n pc (lp.flatMap PE.cells) rfl HSL6.out (.slice (some ⟨X5.heap.size,0,none⟩) 1 1) rfl 1 [.int .u32 nx,.slice PA pn pcc,.bool false] HSRC.out (by decide) (by have:=HM6.out;unfold maxLen;omega) (by have:=HM6.out;omega) ?_;intro A9 c9 wA hSL9 hK9 hA9;have HSL9:=zh hSL9;have HK9:=zh hK9;have HA9:=zh hA9;obtain⟨hg9,hf9⟩:=(TX5.out.below HB6.out).cpF hK9;clear hSL9 hK9 hA9)
     obtain⟨pe,hpe⟩:∃pe:PE,pe=⟨⟨nx,pn,pz,false⟩,PA,pcc⟩:=⟨_,rfl⟩
     have hlen9:(lp++[pe]).length=n+1:=by rw[List.length_append,←HLN.out];rfl
     have hS9:SL wA 78 3 A9 (lp++[pe]).length c9 ((lp++[pe]).flatMap PE.cells):=by
      rw[hlen9,List.flatMap_append,hpe]
      exact HSL9.out
     have hkA:KeepF (aBlk (some ⟨b,o,none⟩)) X5 wA:=(KeepF.of_below HB6.out).trans HK9.out (fun _ _ h=>h)
     have hN9:=(TX5.out.newP hkA A9 c9 (lp++[pe]) hS9 (fun e he=>by
      rcases List.mem_append.1 he with he | he
      ·exact TX5.out.pe e he
      ·rw[List.mem_singleton.1 he,hpe]
       exact PK.out.keepF KX5.out M1.out.bw HB0.out) (fun e he=>by
      rcases List.mem_append.1 he with he | he
      ·exact TX5.out.pr e.v (by rw[←TX5.out.pv];exact List.mem_map_of_mem he)
      ·rw[List.mem_singleton.1 he,hpe]
       exact HNR.out) (fun a ha=>by
      rcases HA9.out a ha with ⟨a',e1,e2⟩ | h2
      ·exact .inl ⟨a',e1,e2⟩
      ·exact .inr (Nat.le_trans HB6.out.size h2)))
     have hPQ:(lp++[pe]).map (·.v)=if s.C.ac=true then s.P++[⟨nx,pn,pz,false⟩] else s.P:=by
      rw[if_pos HAC.out,List.map_append,hpe,M1.out.pv,HP1.out]
      rfl
     have hAB:∀k,aBlk A9 k→aBlk (some ⟨b,o,none⟩) k∨X5.heap.size≤k:=fun k ⟨a,ha,e⟩=>by
      rcases HA9.out a ha with ⟨a',e1,e2⟩ | h2
      ·exact .inl ⟨a',e1,by rw[e,e2]⟩
      ·exact .inr (by rw[e];exact Nat.le_trans HB6.out.size h2)
     have HAB:=zh hAB
     rw[hlen9,hPQ]at hN9
     have hK9:KeepF (uBlk h (some ⟨b2,o2,none⟩) (some ⟨b,o,none⟩) uA) w1 (wA.setCell ⟨h,42,none⟩ (.slice A9 (n+1) c9)):=((KX5.out.trans hkA (fun _ _ h=>.inr (.inr (.inl h))))).setCell (p:=⟨h,42,none⟩) (.inl rfl) _
     try simp only[Act.put]
     refine wp_let (fun Y=>UM Y B h { s1 with Q:=r,next:=nx+1,P:=if s.C.ac=true then s.P++[⟨nx,pn,pz,false⟩] else s.P } QA (qc1-1) (lq1.drop 1) A9 c9 (lp++[pe]) uA uc ks∧KeepF (uBlk h (some ⟨b2,o2,none⟩) (some ⟨b,o,none⟩) uA) w1 Y) ⟨hN9.1,hK9⟩ ?_
     rintro Y ⟨x1,x2⟩
     have TY:=zh x1
     have KY:=zh x2
     have HR9:=zh (HCR.out _ _ _ _ _ _ _ _ _ _ _ x1 HC1.out)
     clear x1 x2 hN9 hK9 hPQ hAB hkA hS9 hlen9 hg9 hf9 y42 f42 hpe
     go_wp2_with (first
      | (refine wpList_load_mid rfl _ _ rfl h 0 rfl CA.toList _ HR9.out HUP.out rfl HSP.out ?_)
      | (go_at_call 50;refine(HPD.out _ KY.out).mono ?_;rintro e w9 ⟨A7,c7,rfl,hc7,hr7,hb7⟩;have HC7:=zh hc7;have HR7:=zh hr7;have HB7:=zh hb7;clear hc7 hr7 hb7))
     go_ret3
     refine uso_eq ⟨A7,c7,rfl,HC7.out,HR7.out,?_⟩ HEND.out.symm
     have hU:UO w1 w9 B h { s1 with Q:=r,next:=nx+1,P:=if s.C.ac=true then s.P++[⟨nx,pn,pz,false⟩] else s.P } (uBlk h (some ⟨b2,o2,none⟩) (some ⟨b,o,none⟩) uA):=⟨_,_,_,_,_,_,_,_,_,TY.out.below HB7.out,KY.out.more HB7.out,fun k hk=>by
      rcases hk with h1 | ⟨a,ha,e⟩ | h1 | h1
      ·exact .inl (.inl h1)
      ·exact .inl (.inr (.inl ⟨_,rfl,by rw[e];exact HQAB.out a ha⟩))
      ·rcases HAB.out k h1 with h2 | h2
       ·exact .inl (.inr (.inr (.inl h2)))
       ·exact .inr (Nat.le_trans KX5.out.size h2)
      ·exact .inl (.inr (.inr (.inr h1)))⟩
     exact hU.comp (K1.out.mono (fun b hb=>.inl hb)) (tick_blk A1.out)
    ·have hac':s.C.ac=false:=by simpa using hac
     rw[hac']at x36
     have HAC:=zh hac
     clear hac hac'
     go_upto_region 21 with (fail)
     have HR9:=zh (HCR.out _ _ _ _ _ _ _ _ _ _ _ TX5.out HC1.out)
     go_wp2_with (first
      | (refine wpList_load_mid rfl _ _ rfl h 0 rfl CA.toList _ HR9.out HUP.out rfl HSP.out ?_)
      | (go_at_call 50;refine(HPD.out _ KX5.out).mono ?_;rintro e w9 ⟨A7,c7,rfl,hc7,hr7,hb7⟩;have HC7:=zh hc7;have HR7:=zh hr7;have HB7:=zh hb7;clear hc7 hr7 hb7))
     go_ret3
     refine uso_eq ⟨A7,c7,rfl,HC7.out,HR7.out,?_⟩ HEND.out.symm
     have hU:UO w1 w9 B h { s1 with Q:=r,next:=nx+1 } (uBlk h (some ⟨b2,o2,none⟩) (some ⟨b,o,none⟩) uA):=⟨_,_,_,_,_,_,_,_,_,TX5.out.below HB7.out,KX5.out.more HB7.out,fun k hk=>by
      rcases hk with h1 | ⟨a,ha,e⟩ | h1
      ·exact .inl (.inl h1)
      ·exact .inl (.inr (.inl ⟨_,rfl,by rw[e];exact HQAB.out a ha⟩))
      ·exact .inl (.inr (.inr h1))⟩
     have h3:=hU.comp (K1.out.mono (fun b hb=>.inl hb)) (tick_blk A1.out)
     rw[if_neg HAC.out,←HP1.out]
     exact h3
   ·have dm:decide ((0:Int) < (n:Int))=false:=decide_eq_false (by omega)
    clear hnx
    go_upto_region 14 with (fail)
    go_quiet (fail)
    go_upto_region 16 with (fail)
    refine wp_let (fun V=>UM V B h s1 qA1 qc1 lq1 pA pc lp uA uc ks∧Below w1.heap.size w1 V) ⟨HM.out.below (below_drewN (Below.refl _ _) _),below_drewN HB.out _⟩ ?_
    rintro V ⟨v1,v2⟩
    have TV:=zh v1
    have BV:=zh v2
    have y40:=v1.cnext
    have y41:=v1.cq
    rw[←HQ1.out]at y41
    rw[←HX.out]at y40
    obtain⟨e0,he0⟩:∃e0,lq1[0]? = some e0:=⟨lq1[0]'(by rw[←HQ1.out];exact hq1),List.getElem?_eq_getElem _⟩
    obtain⟨b2,o2,hqA,hb2,k0',k1'⟩:=v1.qcell he0
    subst hqA
    rw[Nat.zero_mul,Nat.add_zero]at k0'
    have HE0:=zh he0
    have hpk:=M1.out.qe e0 (List.mem_of_getElem? he0)
    obtain⟨PA,hPA⟩:∃PA,PA=e0.A:=⟨_,rfl⟩
    obtain⟨pn,hpn⟩:∃pn,pn=e0.v.n:=⟨_,rfl⟩
    obtain⟨pz,hpz⟩:∃pz,pz=e0.v.z:=⟨_,rfl⟩
    obtain⟨pcc,hpcc⟩:∃pcc,pcc=e0.c:=⟨_,rfl⟩
    rw[←hPA,←hpn,←hpz,←hpcc]at hpk
    rw[←hPA,←hpn,←hpcc]at k0'
    have PK:=zh hpk
    have HEA:=zh (And.intro hPA (And.intro hpn (And.intro hpz hpcc)))
    have HEQ:Hid (e0.v=q∧(lq1.drop 1).map (·.v)=r):=zh (by
     have hh:=M1.out.qv
     rw[HS1.out,HQ0.out]at hh
     cases lq1 with
     | nil=>cases hh
     | cons x l=>
      have:x=e0:=by simpa using HE0.out
      subst this
      injection hh with h1 h2
      exact⟨h1,h2⟩)
    have n32:nx % 4294967296=nx:=by omega
    have n33:IntKind.u32.wrap nx=nx:=by rw[IntKind.wrap_u32];omega
    have HNR:=zh (show 0≤nx∧nx < 4294967296 by omega)
    clear he0 hPA hpn hpz hpcc hpk k1' v1 v2
    go_quiet (fail)
    go_upto_region 17 with (fail)
    refine wp_let (fun X=>UM X B h s1 (some ⟨b2,o2,none⟩) qc1 lq1 pA pc lp uA uc ks∧Below w1.heap.size w1 X) ⟨TV.out.below (below_drewN (Below.refl _ _) _),below_drewN BV.out _⟩ ?_
    rintro X ⟨v1,v2⟩
    have TX:=zh v1
    have KX:=zh (show KeepF (uBlk h (some ⟨b2,o2,none⟩) pA uA) w1 X from KeepF.of_below v2)
    have y41:=v1.cq
    rw[←HQ1.out]at y41
    have f41:=v1.blk.frozen 41
    have hqm:=v1.q.cmax
    have hqle:=v1.q.le
    rw[←HQ1.out]at hqle
    unfold maxLen at hqm
    have q2:(1:Int)≤(q1:Int):=by omega
    have q3:(q1:Int)≤(qc1:Int):=by omega
    have q4:(qc1:Int)≤9223372036854775807:=by omega
    obtain⟨QA,hQA⟩:∃QA:Option Addr,QA=if qc1=1 then some ⟨b2,o2,none⟩ else some ⟨b2,o2+2,none⟩:=⟨_,rfl⟩
    have HQAB:=zh (show ∀a,QA=some a→a.block=b2 from fun a ha=>by rw[hQA]at ha;split at ha<;>(cases ha;rfl))
    have hdl:(lq1.drop 1).length=q1-1:=by rw[List.length_drop,←HQ1.out]
    have S4:SL X 80 2 QA (lq1.drop 1).length (qc1-1) ((lq1.drop 1).flatMap WE.cells):=by
     have hh:=v1.q.drop 1 (by rw[←HQ1.out];exact hq1)
     rw[drop_flatW,Nat.one_mul,←hQA,←HQ1.out,←hdl]at hh
     exact hh
    have T4:=(v1.newQ (w1:=X) KeepF.refl QA (qc1-1) (lq1.drop 1) S4 (fun e he=>v1.qe e (List.mem_of_mem_drop he)) (fun a ha=>.inl ⟨_,rfl,HQAB.out a ha⟩)).1
    rw[hdl,HEQ.out.2]at T4
    have K4:KeepF (uBlk h (some ⟨b2,o2,none⟩) pA uA) w1 (X.setCell ⟨h,41,none⟩ (.slice QA (q1-1) (qc1-1))):=KX.out.setCell (p:=⟨h,41,none⟩) (.inl rfl) _
    clear v1 v2 k0'
    go_upto_region 18 with (fail)
    rw[←hQA]
    refine wp_let (fun Y=>UM Y B h { s1 with Q:=r } QA (qc1-1) (lq1.drop 1) pA pc lp uA uc ks∧KeepF (uBlk h (some ⟨b2,o2,none⟩) pA uA) w1 Y) ⟨T4,K4⟩ ?_
    rintro X4 ⟨x1,x2⟩
    have TX4:=zh x1
    have KX4:=zh x2
    clear S4 T4 K4 hQA hdl y41 f41 hqm q3 q4 y40
    have y40:=x1.cnext
    rw[show({ s1 with Q:=r }:TS).next=s1.next from rfl,←HX.out]at y40
    have f40:=x1.blk.frozen 40
    have T5:=x1.setNext (nx+1) (by omega)
    have K5:KeepF (uBlk h (some ⟨b2,o2,none⟩) pA uA) w1 (X4.setCell ⟨h,40,none⟩ (.int .u64 (nx+1))):=x2.setCell (p:=⟨h,40,none⟩) (.inl rfl) _
    have w64:IntKind.u64.wrap (nx+1)=nx+1:=by rw[IntKind.wrap_u64];omega
    clear x1 x2
    go_upto_region 19 with (fail)
    refine wp_let (fun Y=>UM Y B h { s1 with Q:=r,next:=nx+1 } QA (qc1-1) (lq1.drop 1) pA pc lp uA uc ks∧KeepF (uBlk h (some ⟨b2,o2,none⟩) pA uA) w1 Y) ⟨T5,K5⟩ ?_
    rintro X5 ⟨x1,x2⟩
    have TX5:=zh x1
    have KX5:=zh x2
    clear T5 K5 y40 f40 w64
    have HUP:=zh Tryz.underlying25
    have HSP:Hid ((Tryz.prog.info? 25).map (·.size)=some s.C.arr.toList.length):=zh (by rw[Array.length_toList,s.C.arr_size];exact infoPd)
    have HB0:=zh (show ∀k,uBlk h (some ⟨b2,o2,none⟩) pA uA k→B≤k from M1.out.blkB)
    have HPD:=zh (show ∀W,KeepF (uBlk h (some ⟨b2,o2,none⟩) pA uA) w1 W→_ from fun W hW=>HPO.out nx HNR.out W B PA pn pcc pz (PK.out.keepF hW M1.out.bw HB0.out) (Nat.le_trans M1.out.bw hW.size))
    have HCR:=zh (show ∀W s2 qA2 qc2 lq2 pA2 pc2 lp2 uA2 uc2 ks2,UM W B h s2 qA2 qc2 lq2 pA2 pc2 lp2 uA2 uc2 ks2→s2.C=s.C→W.rangeAt h 0 s.C.arr.toList from fun W s2 qA2 qc2 lq2 pA2 pc2 lp2 uA2 uc2 ks2 hm hC j v hv=>by
     have hj:j < 39:=by have:=(List.getElem?_eq_some_iff.1 hv).1;simpa[Cfg.arr_size]using this
     rw[Nat.zero_add,hm.blk.cell j,uArr_low (Cfg.arr_size _) hj,←hv,Array.getElem?_toList,hC])
    obtain⟨CA,hCA⟩:∃CA,CA=s.C.arr:=⟨_,rfl⟩
    rw[←hCA]at HSP HPD HCR
    have HEND:=zh (show XE=⟨pduN s.C pn,pduZ s.C nx.toNat pn (nf pz),nx,0,{ s1 with Q:=r,next:=nx+1,P:=if s.C.ac=true then s.P++[⟨nx,pn,pz,false⟩] else s.P }⟩ by rw[HXE.out,HEA.out.2.1,HEA.out.2.2.1,HEQ.out.1,HX.out,HN1.out,HS1.out])
    have x36:X5.cell? ⟨h,36,none⟩=some (.bool s.C.ac):=(x1.cC (j:=36) (by decide)).trans (by rw[show({ s1 with Q:=r,next:=nx+1 }:TS).C=s1.C from rfl,HC1.out];rfl)
    clear x1 x2 hCA
    by_cases hac:s.C.ac=true
    ·rw[hac]at x36
     have HAC:=zh hac
     clear hac
     have y42:=TX5.out.cp
     rw[←HLN.out]at y42
     have f42:=TX5.out.blk.frozen 42
     obtain⟨ip,hip,hipz,hips,hipb⟩:=infoPendU
     obtain⟨X6,hX6⟩:∃X6,X6=X5.alloc (.cells #[.int .u32 nx,.slice PA pn pcc,.bool false] 78):=⟨_,rfl⟩
     have hb6:Below X5.heap.size X5 X6:=by rw[hX6];exact(Below.refl _ _).alloc (Nat.le_refl _) _
     have HX6:=zh hX6
     have HB6:=zh hb6
     have hNB:Blk X6 X5.heap.size 78 #[.int .u32 nx,.slice PA pn pcc,.bool false]:=by rw[hX6];exact Blk.new _ _ _
     have HSRC:Hid (Src Tryz.prog 3 74 (.slice (some ⟨X5.heap.size,0,none⟩) 1 1) 1 [.int .u32 nx,.slice PA pn pcc,.bool false] X6):=zh (Src.ofSlice _ Tryz.underlying74 ⟨X5.heap.size,0,none⟩ 1 1 _ rfl (fun j u hu=>by
      have hj:j < 3:=(List.getElem?_eq_some_iff.1 hu).1
      rw[Addr.add_lit,Nat.zero_add,hNB.cell j]
      simpa using hu) (by simp[Value.oneCell']))
     have HSL6:Hid (SL X6 78 3 pA n pc (lp.flatMap PE.cells)):=zh (by rw[HLN.out];exact TX5.out.p.next hb6)
     have HM6:Hid (n≤1000000):=zh hn90
     clear hNB hX6 hb6
     go_upto_region 21 with (rw[←HX6.out];refine wpList_sl_append rfl _ _ 74 74 rfl X6 78 ip (.agg #[.int .u32 0,.slice none 0 0,.bool false]) 3 40 Tryz.underlying74 hip hipz hips hipb rfl pA n pc (lp.flatMap PE.cells) rfl HSL6.out (.slice (some ⟨X5.heap.size,0,none⟩) 1 1) rfl 1 [.int .u32 nx,.slice PA pn pcc,.bool false] HSRC.out (by decide) (by have:=HM6.out;unfold maxLen;omega) (by have:=HM6.out;omega) ?_;intro A9 c9 wA hSL9 hK9 hA9;have HSL9:=zh hSL9;have HK9:=zh hK9;have HA9:=zh hA9;obtain⟨hg9,hf9⟩:=(TX5.out.below HB6.out).cpF hK9;clear hSL9 hK9 hA9)
     obtain⟨pe,hpe⟩:∃pe:PE,pe=⟨⟨nx,pn,pz,false⟩,PA,pcc⟩:=⟨_,rfl⟩
     have hlen9:(lp++[pe]).length=n+1:=by rw[List.length_append,←HLN.out];rfl
     have hS9:SL wA 78 3 A9 (lp++[pe]).length c9 ((lp++[pe]).flatMap PE.cells):=by
      rw[hlen9,List.flatMap_append,hpe]
      exact HSL9.out
     have hkA:KeepF (aBlk pA) X5 wA:=(KeepF.of_below HB6.out).trans HK9.out (fun _ _ h=>h)
     have hN9:=(TX5.out.newP hkA A9 c9 (lp++[pe]) hS9 (fun e he=>by
      rcases List.mem_append.1 he with he | he
      ·exact TX5.out.pe e he
      ·rw[List.mem_singleton.1 he,hpe]
       exact PK.out.keepF KX5.out M1.out.bw HB0.out) (fun e he=>by
      rcases List.mem_append.1 he with he | he
      ·exact TX5.out.pr e.v (by rw[←TX5.out.pv];exact List.mem_map_of_mem he)
      ·rw[List.mem_singleton.1 he,hpe]
       exact HNR.out) (fun a ha=>by
      rcases HA9.out a ha with ⟨a',e1,e2⟩ | h2
      ·exact .inl ⟨a',e1,e2⟩
      ·exact .inr (Nat.le_trans HB6.out.size h2)))
     have hPQ:(lp++[pe]).map (·.v)=if s.C.ac=true then s.P++[⟨nx,pn,pz,false⟩] else s.P:=by
      rw[if_pos HAC.out,List.map_append,hpe,M1.out.pv,HP1.out]
      rfl
     have hAB:∀k,aBlk A9 k→aBlk pA k∨X5.heap.size≤k:=fun k ⟨a,ha,e⟩=>by
      rcases HA9.out a ha with ⟨a',e1,e2⟩ | h2
      ·exact .inl ⟨a',e1,by rw[e,e2]⟩
      ·exact .inr (by rw[e];exact Nat.le_trans HB6.out.size h2)
     have HAB:=zh hAB
     rw[hlen9,hPQ]at hN9
     have hK9:KeepF (uBlk h (some ⟨b2,o2,none⟩) pA uA) w1 (wA.setCell ⟨h,42,none⟩ (.slice A9 (n+1) c9)):=((KX5.out.trans hkA (fun _ _ h=>.inr (.inr (.inl h))))).setCell (p:=⟨h,42,none⟩) (.inl rfl) _
     try simp only[Act.put]
     refine wp_let (fun Y=>UM Y B h { s1 with Q:=r,next:=nx+1,P:=if s.C.ac=true then s.P++[⟨nx,pn,pz,false⟩] else s.P } QA (qc1-1) (lq1.drop 1) A9 c9 (lp++[pe]) uA uc ks∧KeepF (uBlk h (some ⟨b2,o2,none⟩) pA uA) w1 Y) ⟨hN9.1,hK9⟩ ?_
     rintro Y ⟨x1,x2⟩
     have TY:=zh x1
     have KY:=zh x2
     have HR9:=zh (HCR.out _ _ _ _ _ _ _ _ _ _ _ x1 HC1.out)
     clear x1 x2 hN9 hK9 hPQ hAB hkA hS9 hlen9 hg9 hf9 y42 f42 hpe
     go_wp2_with (first
      | (refine wpList_load_mid rfl _ _ rfl h 0 rfl CA.toList _ HR9.out HUP.out rfl HSP.out ?_)
      | (go_at_call 50;refine(HPD.out _ KY.out).mono ?_;rintro e w9 ⟨A7,c7,rfl,hc7,hr7,hb7⟩;have HC7:=zh hc7;have HR7:=zh hr7;have HB7:=zh hb7;clear hc7 hr7 hb7))
     go_ret3
     refine uso_eq ⟨A7,c7,rfl,HC7.out,HR7.out,?_⟩ HEND.out.symm
     have hU:UO w1 w9 B h { s1 with Q:=r,next:=nx+1,P:=if s.C.ac=true then s.P++[⟨nx,pn,pz,false⟩] else s.P } (uBlk h (some ⟨b2,o2,none⟩) pA uA):=⟨_,_,_,_,_,_,_,_,_,TY.out.below HB7.out,KY.out.more HB7.out,fun k hk=>by
      rcases hk with h1 | ⟨a,ha,e⟩ | h1 | h1
      ·exact .inl (.inl h1)
      ·exact .inl (.inr (.inl ⟨_,rfl,by rw[e];exact HQAB.out a ha⟩))
      ·rcases HAB.out k h1 with h2 | h2
       ·exact .inl (.inr (.inr (.inl h2)))
       ·exact .inr (Nat.le_trans KX5.out.size h2)
      ·exact .inl (.inr (.inr (.inr h1)))⟩
     exact hU.comp (K1.out.mono (fun b hb=>.inl hb)) (tick_blk A1.out)
    ·have hac':s.C.ac=false:=by simpa using hac
     rw[hac']at x36
     have HAC:=zh hac
     clear hac hac'
     go_upto_region 21 with (fail)
     have HR9:=zh (HCR.out _ _ _ _ _ _ _ _ _ _ _ TX5.out HC1.out)
     go_wp2_with (first
      | (refine wpList_load_mid rfl _ _ rfl h 0 rfl CA.toList _ HR9.out HUP.out rfl HSP.out ?_)
      | (go_at_call 50;refine(HPD.out _ KX5.out).mono ?_;rintro e w9 ⟨A7,c7,rfl,hc7,hr7,hb7⟩;have HC7:=zh hc7;have HR7:=zh hr7;have HB7:=zh hb7;clear hc7 hr7 hb7))
     go_ret3
     refine uso_eq ⟨A7,c7,rfl,HC7.out,HR7.out,?_⟩ HEND.out.symm
     have hU:UO w1 w9 B h { s1 with Q:=r,next:=nx+1 } (uBlk h (some ⟨b2,o2,none⟩) pA uA):=⟨_,_,_,_,_,_,_,_,_,TX5.out.below HB7.out,KX5.out.more HB7.out,fun k hk=>by
      rcases hk with h1 | ⟨a,ha,e⟩ | h1
      ·exact .inl (.inl h1)
      ·exact .inl (.inr (.inl ⟨_,rfl,by rw[e];exact HQAB.out a ha⟩))
      ·exact .inl (.inr (.inr h1))⟩
     have h3:=hU.comp (K1.out.mono (fun b hb=>.inl hb)) (tick_blk A1.out)
     rw[if_neg HAC.out,←HP1.out]
     exact h3
end
end Go.Proofs.YtjanmleoomoedaaGreat

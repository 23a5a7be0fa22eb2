import Derived.Test.YtiiojpnckbglcaaGreatSCs
import Derived.Test.YtiiojpnckbglcaaGreatMLXs
import Derived.Test.YtiiojpnckbglcaaGreatMY2Ns
import Derived.Test.YtiiojpnckbglcaaGreatMBBs
set_option linter.unusedVariables false
set_option linter.unusedSimpArgs false
namespace Go.Proofs.YtiiojpnckbglcaaGreat
open Go.RowKit
section
variable {w w':World} {B B':Nat} {A A2 A' A2':Option Addr} {c c2 c' c2':Nat} {P:List PV} {Q:List QV}
theorem yw {n k:Nat} {l:List PE} {e:PE} (hs:SL w 68 2 A n c (l.flatMap PE.cc)) (hn:n=l.length) (he:l[k]? = some e) (hr:au w w.heap.size e.A e.v.n (fun j=>.int .u8 (e.v.z j))):xk w A k e.v.ct e.v.n e.v.z:=by
 have hk:k < n:=by rw[hn];exact(List.getElem?_eq_some_iff.1 he).1
 obtain⟨b,o,hA,hb⟩:=hs.some_ (by omega)
 have hc:∀j,j < 2->w.cell? ⟨b,o+k*2+j,none⟩=(PE.cc e)[j]?:=fun j hj=>by
  have:=hs.cell hA (j:=k*2+j) (by omega)
  rw[<-Nat.add_assoc]at this
  rw[this]
  exact bp PE.cc 2 (fun _=>rfl) l k j e he hj
 exact⟨b,o,e.A,e.c,hA,hb,hc 0 (by decide),hc 1 (by decide),hr⟩
theorem ym {n k:Nat} {l:List WE} {e:WE} (hs:SL w 44 1 A n c (l.flatMap WE.cc)) (hn:n=l.length) (he:l[k]? = some e) (hr:au w w.heap.size e.A e.v.n (fun j=>.int .u8 (e.v.z j))):xU w A k e.v.n e.v.z:=by
 have hk:k < n:=by rw[hn];exact(List.getElem?_eq_some_iff.1 he).1
 obtain⟨b,o,hA,hb⟩:=hs.some_ (by omega)
 have hc:w.cell? ⟨b,o+k,none⟩=(WE.cc e)[0]?:=by
  have:=hs.cell hA (j:=k*1+0) (by omega)
  rw[Nat.mul_one,Nat.add_zero]at this
  rw[this]
  have h2:=bp WE.cc 1 (fun _=>rfl) l k 0 e he (by decide)
  rw[Nat.mul_one,Nat.add_zero]at h2
  exact h2
 exact⟨b,o,e.A,e.c,hA,hb,hc,hr⟩
structure FX (w:World) (A:Option Addr) (c:Nat) (A2:Option Addr) (c2:Nat) (P:List PV) (Q:List QV):Prop where
 p:∃lp:List PE,lp.map (·.v)=P/\SL w 68 2 A P.length c (lp.flatMap PE.cc)/\∀e,e∈lp->au w w.heap.size e.A e.v.n (fun j=>.int .u8 (e.v.z j))
 q:∃lq:List WE,lq.map (·.v)=Q/\SL w 44 1 A2 Q.length c2 (lq.flatMap WE.cc)/\∀e,e∈lq->au w w.heap.size e.A e.v.n (fun j=>.int .u8 (e.v.z j))
theorem yC.fx {pA qA:Option Addr} {pc qc:Nat} {lp:List PE} {lq:List WE} (h:yC w B P Q pA pc lp qA qc lq):lp.length=P.length/\lq.length=Q.length/\FX w pA pc qA qc P Q:=by
 have e1:lp.length=P.length:=by rw[<-h.pv,List.length_map]
 have e2:lq.length=Q.length:=by rw[<-h.qv,List.length_map]
 exact⟨e1,e2,⟨lp,h.pv,by rw[<-e1];exact h.p,fun e he=>(h.pe e he).row⟩,⟨lq,h.qv,by rw[<-e2];exact h.q,fun e he=>(h.qe e he).row⟩⟩
end
def zj (s:TS) (w:World) (e:Ending) (w':World):Prop:=
 ∃A c A2 c2,e=.returned (.agg #[.int .u32 (s.next % 4294967296),.bool (decide (s.next=4294967296)),.slice A s.P.length c,.slice A2 s.Q.length c2])/\FX w' A c A2 c2 s.P s.Q/\Below w.heap.size w w'
theorem pX (g:Nat) (s:TS) (W R:Nat->Prop) (w:World) (h:dK w g s W R) (hf:s.P.length<=1000000/\s.Q.length<=1000000):Calls Tryz.prog 15 #[.pointer (some ⟨g,0,none⟩)] w (zj s w):=by
 refine(jW g s W R w h hf).mono ?_
 rintro e w' ⟨pA,pc,lp,qA,qc,lq,he,hF,hB⟩
 obtain⟨e1,e2,hx⟩:=hF.fx
 exact⟨pA,pc,qA,qc,by rw[he,e1,e2],hx,hB⟩
end Go.Proofs.YtiiojpnckbglcaaGreat
namespace Go.Proofs.YtiiojpnckbglcaaGreat
open Go.RowKit
attribute [local go_sem ↓] Go.wp_at_zero Go.wp_at_succ
def re (a b:aZ):Prop:=a.Valid/\b.Valid/\¬a.d=b.d/\a.b=b.b
set_option maxRecDepth 100000 in
set_option maxHeartbeats 1600000 in
theorem wl (cf cf2:aZ) (h1:¬cf.Valid) (w:World) :
  Calls Tryz.prog 33 #[.agg cf.arr,.agg cf2.arr] w fun e w'=>e=.returned (.bool false)/\Below w.heap.size w w':=by
 have HV1:=zh (fun W=>bu cf W)
 have HV2:=zh (fun W=>bu cf2 W)
 rw[decide_eq_false h1]at HV1
 have HSA:Hid ((Tryz.prog.info? 25).map (·.size)=some cf.arr.toList.length):=zh (by rw[Array.length_toList,cf.arr_size];exact aM)
 have HSB:Hid ((Tryz.prog.info? 25).map (·.size)=some cf2.arr.toList.length):=zh (by rw[Array.length_toList,cf2.arr_size];exact aM)
 have HUC:=zh Tryz.underlying25
 have ha0:cf.arr[0]? = some (.int .i64 cf.b):=cf.arr_at (by decide)
 have ha1:cf.arr[1]? = some (.int .i64 cf.d):=cf.arr_at (by decide)
 have hc0:cf2.arr[0]? = some (.int .i64 cf2.b):=cf2.arr_at (by decide)
 have hc1:cf2.arr[1]? = some (.int .i64 cf2.d):=cf2.arr_at (by decide)
 obtain⟨CA,hCA⟩:=af cf.arr
 obtain⟨CB,hCB⟩:=af cf2.arr
 rw[<-hCA]at HV1 HSA ha0 ha1 ⊢
 rw[<-hCB]at HV2 HSB hc0 hc1 ⊢
 obtain⟨b,hbb⟩:=af cf.b
 obtain⟨d,hdd⟩:=af cf.d
 obtain⟨b2,hbb2⟩:∃b,b=cf2.b:=⟨_,rfl⟩
 obtain⟨d2,hdd2⟩:∃d,d=cf2.d:=⟨_,rfl⟩
 rw[<-hbb]at ha0
 rw[<-hbb2]at hc0
 rw[<-hdd]at ha1
 rw[<-hdd2]at hc1
 have HA:=zh (And.intro ha0 (And.intro ha1 (And.intro hc0 hc1)))
 clear hCA hCB hbb hdd hbb2 hdd2 ha0 ha1 hc0 hc1 h1
 go_enter Tryz.func33,Tryz.ntmps33
 go_upto_region 1 with (fail)
 obtain⟨kb,hkb⟩:=af w.heap.size
 refine ag (fun V=>ae V kb 25 CA/\ae V (kb+1) 25 CB/\Below w.heap.size w V) ⟨by rw[hkb];exact(az _ _ _ _ rfl).alloc _,by rw[hkb];exact az _ _ _ _ (by simp),((Below.refl _ w).alloc ao _).alloc (by simp) _⟩ ?_
 rintro V ⟨b0,b1,b5⟩
 rw[<-hkb]
 have HB0:=zh b0
 have HB1:=zh b1
 have HV:=zh b5
 have R0:=zh (show V.rangeAt kb 0 CA.toList from fun j y hy=>by rw[b0.cell,Nat.zero_add,<-hy,Array.getElem?_toList])
 clear b0 b1 b5 hkb
 go_wp2_with (first
  | (refine wpList_load_mid rfl 25 _ rfl kb 0 rfl CA.toList _ R0.out HUC.out rfl HSA.out ?_)
  | (go_at_call 35;refine(HV1.out _).mono ?_;rintro e w1 ⟨rfl,hb⟩;have B1:=zh hb;have R1:=zh (show w1.rangeAt (kb+1) 0 CB.toList from fun j y hy=>by rw[(HB1.out.below hb HB1.out.lt).cell,Nat.zero_add,<-hy,Array.getElem?_toList]);clear hb))
 go_ret
 exact⟨rfl,HV.out.trans (B1.out.mono HV.out.size)⟩
set_option maxRecDepth 100000 in
set_option maxHeartbeats 1600000 in
theorem wa (cf cf2:aZ) (h1:cf.Valid) (h2:¬cf2.Valid) (w:World) :
  Calls Tryz.prog 33 #[.agg cf.arr,.agg cf2.arr] w fun e w'=>e=.returned (.bool false)/\Below w.heap.size w w':=by
 have HV1:=zh (fun W=>bu cf W)
 have HV2:=zh (fun W=>bu cf2 W)
 rw[decide_eq_true h1]at HV1
 rw[decide_eq_false h2]at HV2
 have HSA:Hid ((Tryz.prog.info? 25).map (·.size)=some cf.arr.toList.length):=zh (by rw[Array.length_toList,cf.arr_size];exact aM)
 have HSB:Hid ((Tryz.prog.info? 25).map (·.size)=some cf2.arr.toList.length):=zh (by rw[Array.length_toList,cf2.arr_size];exact aM)
 have HUC:=zh Tryz.underlying25
 have ha0:cf.arr[0]? = some (.int .i64 cf.b):=cf.arr_at (by decide)
 have ha1:cf.arr[1]? = some (.int .i64 cf.d):=cf.arr_at (by decide)
 have hc0:cf2.arr[0]? = some (.int .i64 cf2.b):=cf2.arr_at (by decide)
 have hc1:cf2.arr[1]? = some (.int .i64 cf2.d):=cf2.arr_at (by decide)
 obtain⟨CA,hCA⟩:=af cf.arr
 obtain⟨CB,hCB⟩:=af cf2.arr
 rw[<-hCA]at HV1 HSA ha0 ha1 ⊢
 rw[<-hCB]at HV2 HSB hc0 hc1 ⊢
 obtain⟨b,hbb⟩:=af cf.b
 obtain⟨d,hdd⟩:=af cf.d
 obtain⟨b2,hbb2⟩:∃b,b=cf2.b:=⟨_,rfl⟩
 obtain⟨d2,hdd2⟩:∃d,d=cf2.d:=⟨_,rfl⟩
 rw[<-hbb]at ha0
 rw[<-hbb2]at hc0
 rw[<-hdd]at ha1
 rw[<-hdd2]at hc1
 have HA:=zh (And.intro ha0 (And.intro ha1 (And.intro hc0 hc1)))
 clear hCA hCB hbb hdd hbb2 hdd2 ha0 ha1 hc0 hc1 h1 h2
 go_enter Tryz.func33,Tryz.ntmps33
 go_upto_region 1 with (fail)
 obtain⟨kb,hkb⟩:=af w.heap.size
 refine ag (fun V=>ae V kb 25 CA/\ae V (kb+1) 25 CB/\Below w.heap.size w V) ⟨by rw[hkb];exact(az _ _ _ _ rfl).alloc _,by rw[hkb];exact az _ _ _ _ (by simp),((Below.refl _ w).alloc ao _).alloc (by simp) _⟩ ?_
 rintro V ⟨b0,b1,b5⟩
 rw[<-hkb]
 have HB0:=zh b0
 have HB1:=zh b1
 have HV:=zh b5
 have R0:=zh (show V.rangeAt kb 0 CA.toList from fun j y hy=>by rw[b0.cell,Nat.zero_add,<-hy,Array.getElem?_toList])
 clear b0 b1 b5 hkb
 go_wp2_with (first
  | (refine wpList_load_mid rfl 25 _ rfl kb 0 rfl CA.toList _ R0.out HUC.out rfl HSA.out ?_)
  | (refine aP rfl 25 _ rfl (kb+1) 0 rfl CB.toList _ R1.out HUC.out rfl HSB.out ?_)
  | (go_at_call 35;have hq:=B1.out;clear hq;refine(HV2.out _).mono ?_;rintro e w2 ⟨rfl,hb⟩;have B2:=zh (B1.out.trans (hb.mono B1.out.size));have x0:=(((HB0.out.below B1.out HB0.out.lt).below hb (bg HB0.out.lt B1.out.size)).cell 0).trans HA.out.1;have x1:=(((HB0.out.below B1.out HB0.out.lt).below hb (bg HB0.out.lt B1.out.size)).cell 1).trans HA.out.2.1;have y0:=(((HB1.out.below B1.out HB1.out.lt).below hb (bg HB1.out.lt B1.out.size)).cell 0).trans HA.out.2.2.1;have y1:=(((HB1.out.below B1.out HB1.out.lt).below hb (bg HB1.out.lt B1.out.size)).cell 1).trans HA.out.2.2.2;clear hb)
  | (go_at_call 35;refine(HV1.out _).mono ?_;rintro e w1 ⟨rfl,hb⟩;have B1:=zh hb;have R1:=zh (show w1.rangeAt (kb+1) 0 CB.toList from fun j y hy=>by rw[(HB1.out.below hb HB1.out.lt).cell,Nat.zero_add,<-hy,Array.getElem?_toList]);clear hb))
 go_ret
 exact⟨rfl,HV.out.trans (B2.out.mono HV.out.size)⟩
set_option maxRecDepth 100000 in
set_option maxHeartbeats 1600000 in
theorem wm (cf cf2:aZ) (h1:cf.Valid) (h2:cf2.Valid) (hd:cf.d=cf2.d) (hb:True) (w:World) :
  Calls Tryz.prog 33 #[.agg cf.arr,.agg cf2.arr] w fun e w'=>e=.returned (.bool false)/\Below w.heap.size w w':=by
 have HV1:=zh (fun W=>bu cf W)
 have HV2:=zh (fun W=>bu cf2 W)
 rw[decide_eq_true h1]at HV1
 rw[decide_eq_true h2]at HV2
 have HSA:Hid ((Tryz.prog.info? 25).map (·.size)=some cf.arr.toList.length):=zh (by rw[Array.length_toList,cf.arr_size];exact aM)
 have HSB:Hid ((Tryz.prog.info? 25).map (·.size)=some cf2.arr.toList.length):=zh (by rw[Array.length_toList,cf2.arr_size];exact aM)
 have HUC:=zh Tryz.underlying25
 have ha0:cf.arr[0]? = some (.int .i64 cf.b):=cf.arr_at (by decide)
 have ha1:cf.arr[1]? = some (.int .i64 cf.d):=cf.arr_at (by decide)
 have hc0:cf2.arr[0]? = some (.int .i64 cf2.b):=cf2.arr_at (by decide)
 have hc1:cf2.arr[1]? = some (.int .i64 cf2.d):=cf2.arr_at (by decide)
 obtain⟨CA,hCA⟩:=af cf.arr
 obtain⟨CB,hCB⟩:=af cf2.arr
 rw[<-hCA]at HV1 HSA ha0 ha1 ⊢
 rw[<-hCB]at HV2 HSB hc0 hc1 ⊢
 obtain⟨b,hbb⟩:=af cf.b
 obtain⟨d,hdd⟩:=af cf.d
 obtain⟨b2,hbb2⟩:∃b,b=cf2.b:=⟨_,rfl⟩
 obtain⟨d2,hdd2⟩:∃d,d=cf2.d:=⟨_,rfl⟩
 rw[<-hbb]at ha0
 rw[<-hbb2]at hc0
 rw[<-hdd]at ha1 hd
 rw[<-hdd2]at hc1 hd
 have HA:=zh (And.intro ha0 (And.intro ha1 (And.intro hc0 hc1)))
 have HNE:=zh hd
 have HNB:=zh hb
 clear hCA hCB hbb hdd hbb2 hdd2 hb ha0 ha1 hc0 hc1 hd h1 h2
 go_enter Tryz.func33,Tryz.ntmps33
 go_upto_region 1 with (fail)
 obtain⟨kb,hkb⟩:=af w.heap.size
 refine ag (fun V=>ae V kb 25 CA/\ae V (kb+1) 25 CB/\Below w.heap.size w V) ⟨by rw[hkb];exact(az _ _ _ _ rfl).alloc _,by rw[hkb];exact az _ _ _ _ (by simp),((Below.refl _ w).alloc ao _).alloc (by simp) _⟩ ?_
 rintro V ⟨b0,b1,b5⟩
 rw[<-hkb]
 have HB0:=zh b0
 have HB1:=zh b1
 have HV:=zh b5
 have R0:=zh (show V.rangeAt kb 0 CA.toList from fun j y hy=>by rw[b0.cell,Nat.zero_add,<-hy,Array.getElem?_toList])
 clear b0 b1 b5 hkb
 go_wp2_with (first
  | (refine wpList_load_mid rfl 25 _ rfl kb 0 rfl CA.toList _ R0.out HUC.out rfl HSA.out ?_)
  | (refine aP rfl 25 _ rfl (kb+1) 0 rfl CB.toList _ R1.out HUC.out rfl HSB.out ?_)
  | (go_at_call 35;have hq:=B1.out;clear hq;refine(HV2.out _).mono ?_;rintro e w2 ⟨rfl,hb⟩;have B2:=zh (B1.out.trans (hb.mono B1.out.size));have x0:=(((HB0.out.below B1.out HB0.out.lt).below hb (bg HB0.out.lt B1.out.size)).cell 0).trans HA.out.1;have x1:=(((HB0.out.below B1.out HB0.out.lt).below hb (bg HB0.out.lt B1.out.size)).cell 1).trans HA.out.2.1;have y0:=(((HB1.out.below B1.out HB1.out.lt).below hb (bg HB1.out.lt B1.out.size)).cell 0).trans HA.out.2.2.1;have y1:=(((HB1.out.below B1.out HB1.out.lt).below hb (bg HB1.out.lt B1.out.size)).cell 1).trans HA.out.2.2.2;have hne:(d != d2)=false:=(by rw[HNE.out];simp);clear hb)
  | (go_at_call 35;refine(HV1.out _).mono ?_;rintro e w1 ⟨rfl,hb⟩;have B1:=zh hb;have R1:=zh (show w1.rangeAt (kb+1) 0 CB.toList from fun j y hy=>by rw[(HB1.out.below hb HB1.out.lt).cell,Nat.zero_add,<-hy,Array.getElem?_toList]);clear hb))
 go_ret
 exact⟨rfl,HV.out.trans (B2.out.mono HV.out.size)⟩
set_option maxRecDepth 100000 in
set_option maxHeartbeats 1600000 in
theorem wt (cf cf2:aZ) (h1:cf.Valid) (h2:cf2.Valid) (hd:¬cf.d=cf2.d) (hb:¬cf.b=cf2.b) (w:World) :
  Calls Tryz.prog 33 #[.agg cf.arr,.agg cf2.arr] w fun e w'=>e=.returned (.bool false)/\Below w.heap.size w w':=by
 have HV1:=zh (fun W=>bu cf W)
 have HV2:=zh (fun W=>bu cf2 W)
 rw[decide_eq_true h1]at HV1
 rw[decide_eq_true h2]at HV2
 have HSA:Hid ((Tryz.prog.info? 25).map (·.size)=some cf.arr.toList.length):=zh (by rw[Array.length_toList,cf.arr_size];exact aM)
 have HSB:Hid ((Tryz.prog.info? 25).map (·.size)=some cf2.arr.toList.length):=zh (by rw[Array.length_toList,cf2.arr_size];exact aM)
 have HUC:=zh Tryz.underlying25
 have ha0:cf.arr[0]? = some (.int .i64 cf.b):=cf.arr_at (by decide)
 have ha1:cf.arr[1]? = some (.int .i64 cf.d):=cf.arr_at (by decide)
 have hc0:cf2.arr[0]? = some (.int .i64 cf2.b):=cf2.arr_at (by decide)
 have hc1:cf2.arr[1]? = some (.int .i64 cf2.d):=cf2.arr_at (by decide)
 obtain⟨CA,hCA⟩:=af cf.arr
 obtain⟨CB,hCB⟩:=af cf2.arr
 rw[<-hCA]at HV1 HSA ha0 ha1 ⊢
 rw[<-hCB]at HV2 HSB hc0 hc1 ⊢
 obtain⟨b,hbb⟩:=af cf.b
 obtain⟨d,hdd⟩:=af cf.d
 obtain⟨b2,hbb2⟩:∃b,b=cf2.b:=⟨_,rfl⟩
 obtain⟨d2,hdd2⟩:∃d,d=cf2.d:=⟨_,rfl⟩
 rw[<-hbb]at ha0 hb
 rw[<-hbb2]at hc0 hb
 rw[<-hdd]at ha1 hd
 rw[<-hdd2]at hc1 hd
 have HA:=zh (And.intro ha0 (And.intro ha1 (And.intro hc0 hc1)))
 have HNE:=zh hd
 have HNB:=zh hb
 clear hCA hCB hbb hdd hbb2 hdd2 hb ha0 ha1 hc0 hc1 hd h1 h2
 go_enter Tryz.func33,Tryz.ntmps33
 go_upto_region 1 with (fail)
 obtain⟨kb,hkb⟩:=af w.heap.size
 refine ag (fun V=>ae V kb 25 CA/\ae V (kb+1) 25 CB/\Below w.heap.size w V) ⟨by rw[hkb];exact(az _ _ _ _ rfl).alloc _,by rw[hkb];exact az _ _ _ _ (by simp),((Below.refl _ w).alloc ao _).alloc (by simp) _⟩ ?_
 rintro V ⟨b0,b1,b5⟩
 rw[<-hkb]
 have HB0:=zh b0
 have HB1:=zh b1
 have HV:=zh b5
 have R0:=zh (show V.rangeAt kb 0 CA.toList from fun j y hy=>by rw[b0.cell,Nat.zero_add,<-hy,Array.getElem?_toList])
 clear b0 b1 b5 hkb
 go_wp2_with (first
  | (refine wpList_load_mid rfl 25 _ rfl kb 0 rfl CA.toList _ R0.out HUC.out rfl HSA.out ?_)
  | (refine aP rfl 25 _ rfl (kb+1) 0 rfl CB.toList _ R1.out HUC.out rfl HSB.out ?_)
  | (go_at_call 35;have hq:=B1.out;clear hq;refine(HV2.out _).mono ?_;rintro e w2 ⟨rfl,hb⟩;have B2:=zh (B1.out.trans (hb.mono B1.out.size));have x0:=(((HB0.out.below B1.out HB0.out.lt).below hb (bg HB0.out.lt B1.out.size)).cell 0).trans HA.out.1;have x1:=(((HB0.out.below B1.out HB0.out.lt).below hb (bg HB0.out.lt B1.out.size)).cell 1).trans HA.out.2.1;have y0:=(((HB1.out.below B1.out HB1.out.lt).below hb (bg HB1.out.lt B1.out.size)).cell 0).trans HA.out.2.2.1;have y1:=(((HB1.out.below B1.out HB1.out.lt).below hb (bg HB1.out.lt B1.out.size)).cell 1).trans HA.out.2.2.2;have hne:(d != d2)=true:=(by simpa using HNE.out);have hbe:(b == b2)=false:=(by simpa using HNB.out);clear hb)
  | (go_at_call 35;refine(HV1.out _).mono ?_;rintro e w1 ⟨rfl,hb⟩;have B1:=zh hb;have R1:=zh (show w1.rangeAt (kb+1) 0 CB.toList from fun j y hy=>by rw[(HB1.out.below hb HB1.out.lt).cell,Nat.zero_add,<-hy,Array.getElem?_toList]);clear hb))
 go_ret
 exact⟨rfl,HV.out.trans (B2.out.mono HV.out.size)⟩
theorem xK (cf cf2:aZ) (hno:¬re cf cf2) (w:World):Calls Tryz.prog 33 #[.agg cf.arr,.agg cf2.arr] w fun e w'=>e=.returned (.bool false)/\Below w.heap.size w w':=by
 by_cases h1:cf.Valid
 ·by_cases h2:cf2.Valid
  ·by_cases hd:cf.d=cf2.d
   ·exact wm cf cf2 h1 h2 hd trivial w
   ·exact wt cf cf2 h1 h2 hd (fun hb=>hno ⟨h1,h2,hd,hb⟩) w
  ·exact wa cf cf2 h1 h2 w
 ·exact wl cf cf2 h1 w
theorem gF:(Tryz.prog.info? 36).map (·.size)=some (#[.pointer none,.pointer none]:Array Value).size:=by kernel_rfl
theorem lK:(#[.pointer none,.pointer none]:Array Value).all (·.oneCell')=true:=by kernel_rfl
set_option maxRecDepth 100000 in
set_option maxHeartbeats 1600000 in
theorem o4 (cf cf2:aZ) (hno:¬re cf cf2) (w:World) :
  Calls Tryz.prog 8 #[.agg cf.arr,.agg cf2.arr] w fun e w'=>e=.returned (.tuple #[.agg #[.pointer none,.pointer none],.int .i64 2])/\Below w.heap.size w w':=by
 have HFT:=zh (fun V=>xK cf cf2 hno V)
 have HSA:Hid ((Tryz.prog.info? 25).map (·.size)=some cf.arr.toList.length):=zh (by rw[Array.length_toList,cf.arr_size];exact aM)
 have HSB:Hid ((Tryz.prog.info? 25).map (·.size)=some cf2.arr.toList.length):=zh (by rw[Array.length_toList,cf2.arr_size];exact aM)
 have HUC:=zh Tryz.underlying25
 obtain⟨CA,hCA⟩:=af cf.arr
 obtain⟨CB,hCB⟩:=af cf2.arr
 rw[<-hCA]at HFT HSA ⊢
 rw[<-hCB]at HFT HSB ⊢
 clear hCA hCB hno
 go_enter Tryz.func8,Tryz.ntmps8
 go_upto_region 1 with (fail)
 obtain⟨kb,hkb⟩:=af w.heap.size
 have HKB:=zh hkb
 refine ag (fun V=>ae V kb 25 CA/\ae V (kb+1) 25 CB/\ae V (kb+1+1) 36 #[.pointer none,.pointer none]/\Below w.heap.size w V/\w.heap.size+3<=V.heap.size) ⟨by rw[hkb];exact((az _ _ _ _ rfl).alloc _).alloc _,by rw[hkb];exact(az _ _ _ _ (by simp)).alloc _,by rw[hkb];exact az _ _ _ _ (by simp),(((Below.refl _ w).alloc ao _).alloc (by simp) _).alloc (by simp;omega) _,by simp⟩ ?_
 rintro V ⟨b0,b1,b4,b5,b6⟩
 rw[<-hkb]
 have HB4:=zh b4
 have HV:=zh b5
 have R0:=zh (show V.rangeAt kb 0 CA.toList from fun j y hy=>by rw[b0.cell,Nat.zero_add,<-hy,Array.getElem?_toList])
 have R1:=zh (show V.rangeAt (kb+1) 0 CB.toList from fun j y hy=>by rw[b1.cell,Nat.zero_add,<-hy,Array.getElem?_toList])
 clear b0 b1 b4 b5 b6 hkb
 go_wp2_with (first
  | (refine wpList_load_mid rfl 25 _ rfl kb 0 rfl CA.toList _ R0.out HUC.out rfl HSA.out ?_)
  | (refine wpList_load_mid rfl 25 _ rfl (kb+1) 0 rfl CB.toList _ R1.out HUC.out rfl HSB.out ?_)
  | (go_at_call 33;refine(HFT.out _).mono ?_;rintro e w1 ⟨rfl,hb⟩;have B1:=zh hb;have C4:=zh (HB4.out.below hb HB4.out.lt);have X1:=zh (HV.out.trans (hb.mono HV.out.size));clear hb)
  | (refine wpList_store_row rfl _ _ _ rfl (kb+1+1) #[.pointer none,.pointer none] rfl rfl 36 _ C4.out gF rfl lK ?_))
 have hB5:=ae.setRow (ds:=#[.pointer none,.pointer none]) C4.out
 refine bodyPost_ret (v:=.tuple #[.agg #[.pointer none,.pointer none],.int .i64 2]) (aO (g:=kb+1+1) (t:=36) (fr:=(0,0)) Tryz.results8 _ _ #[.pointer none,.pointer none] _ rfl hB5 Tryz.underlying36 rfl gF _ rfl) rfl ⟨rfl,aj X1.out (by have:=HKB.out;omega) _⟩
theorem wy {w:World} {A:Option Addr} {m:Nat} {ct:Nat->Int} {PA:Nat->Option Addr} {pn pc:Nat->Nat} {z:Nat->Nat->Int} (h:fC w A m ct PA pn pc z) {k:Nat} (hk:k < m):xk w A k (ct k) (pn k) (z k):=by
 obtain⟨lb,lo,e,hlt,hc⟩:=h.at_ (by omega)
 exact⟨lb,lo,PA k,pc k,e,hlt,(hc k hk).1,(hc k hk).2,h.row k hk⟩
theorem tG {w:World} {A:Option Addr} {m:Nat} {PA:Nat->Option Addr} {pn pc:Nat->Nat} {z:Nat->Nat->Int} (h:dW w A m PA pn pc z) {k:Nat} (hk:k < m):xU w A k (pn k) (z k):=by
 obtain⟨lb,lo,e,hlt,hc⟩:=h.at_ (by omega)
 exact⟨lb,lo,PA k,pc k,e,hlt,hc k hk,h.row k hk⟩
theorem ua {w:World} {pA qA A A2:Option Addr} {pc0 qc0 m mq:Nat} {ct:Nat->Int} {PA:Nat->Option Addr} {pn pc:Nat->Nat} {z:Nat->Nat->Int} {QA:Nat->Option Addr} {qn qc:Nat->Nat} {y:Nat->Nat->Int} (h:FX w pA pc0 qA qc0 (cz m ct pn z) (ee mq qn y)) (h1:fC w A m ct PA pn pc z) (h2:dW w A2 mq QA qn qc y):jd w pA A m/\jo w qA A2 mq:=by
 obtain⟨⟨lp,p1,p2,p3⟩,⟨lq,q1,q2,q3⟩⟩:=h
 have hm:(cz m ct pn z).length=m:=by simp[cz]
 have hq:(ee mq qn y).length=mq:=by simp[ee]
 have hl:m=lp.length:=by rw[<-hm,<-p1,List.length_map]
 have hk:mq=lq.length:=by rw[<-hq,<-q1,List.length_map]
 rw[hm]at p2
 rw[hq]at q2
 refine⟨fun k hlt=>?_,fun k hlt=>?_⟩
 ·have e1:lp[k]? = some lp[k]:=List.getElem?_eq_getElem (by omega)
  have hv:lp[k].v=⟨ct k,pn k,z k,true⟩:=by
   have h3:(lp.map (·.v))[k]? = some lp[k].v:=by rw[List.getElem?_map,e1];rfl
   rw[p1]at h3
   simp only[cz,List.getElem?_map,List.getElem?_range hlt,Option.map_some]at h3
   exact(Option.some.inj h3).symm
  have g1:=yw p2 hl e1 (p3 _ (List.mem_of_getElem? e1))
  rw[hv]at g1
  exact⟨_,_,_,_,g1,wy h1 hlt,fun j _=>rfl⟩
 ·have e1:lq[k]? = some lq[k]:=List.getElem?_eq_getElem (by omega)
  have hv:lq[k].v=⟨qn k,y k,0⟩:=by
   have h3:(lq.map (·.v))[k]? = some lq[k].v:=by rw[List.getElem?_map,e1];rfl
   rw[q1]at h3
   simp only[ee,List.getElem?_map,List.getElem?_range hlt,Option.map_some]at h3
   exact(Option.some.inj h3).symm
  have g1:=ym q2 hk e1 (q3 _ (List.mem_of_getElem? e1))
  rw[hv]at g1
  exact⟨_,_,_,g1,tG h2 hlt,fun j _=>rfl⟩
theorem rU {nx:Int} (us:Bool) (h:0<=nx/\nx < 4294967296):0<=bi nx us/\bi nx us<=4294967296:=by
 unfold bi
 split<;>omega
theorem nu {nx:Int} {us:Bool} (h:0<=nx/\nx < 4294967296) (hu:us=true->nx=0):bi nx us % 4294967296=nx/\decide (bi nx us=4294967296)=us:=by
 unfold bi
 cases us
 ·rw[if_neg (by decide)]
  exact⟨by omega,decide_eq_false (by omega)⟩
 ·rw[if_pos rfl,hu rfl]
  exact⟨by decide,rfl⟩
theorem vp {cf:aZ} {nx:Int} {us:Bool} {m mq:Nat} {ct:Nat->Int} {pn qn:Nat->Nat} {z y:Nat->Nat->Int} (h:sR cf.ac nx us m ct pn mq qn) (hn:0<=nx/\nx < 4294967296) (hr:∀k,k < m->0<=ct k/\ct k < 4294967296):yE (eB cf (bi nx us) m ct pn z mq qn y):=by
 have hmono:∀d i,i+d < m->ct i<=ct (i+d):=fun d=>by
  induction d with
  | zero=>exact fun i _=>Int.le_refl _
  | succ d ih=>
   intro i hi
   have h1:=ih i (by omega)
   have h2:=(h.elem (i+(d+1)) hi).2.2 (by omega)
   rw[show i+(d+1)-1=i+d by omega]at h2
   omega
 refine⟨rU us hn,?_,fun p hp=>?_,fun hne=>?_⟩
 ·show((cz m ct pn z).map (·.ct)).Pairwise (· < ·)
  rw[List.pairwise_iff_getElem]
  intro i j hi hj hij
  simp only[cz,List.length_map,List.length_range]at hi hj
  simp only[cz,List.getElem_map,List.getElem_range]
  have h1:=hmono (j-1-i) i (by omega)
  rw[show i+(j-1-i)=j-1 by omega]at h1
  have h2:=(h.elem j hj).2.2 (by omega)
  omega
 ·have hp':p∈cz m ct pn z:=hp
  simp only[cz,List.mem_map,List.mem_range]at hp'
  obtain⟨k,hk,rfl⟩:=hp'
  have h1:=(h.elem k hk).2.1
  have h2:=h.window (by omega)
  have h3:=hmono k 0 (by omega)
  rw[Nat.zero_add]at h3
  exact⟨(hr k hk).1,h1,by show bi nx us-ct k<=2048;omega⟩
 ·refine h.acked (Nat.pos_of_ne_zero fun e=>hne ?_)
  subst e
  rfl
theorem tW (m:Nat) (ct:Nat->Int) (pn:Nat->Nat) (z:Nat->Nat->Int):fA (cz m ct pn z)=m:=by
 unfold fA
 rw[List.filter_eq_self.2 (fun p hp=>by
  simp only[cz,List.mem_map,List.mem_range]at hp
  obtain⟨k,hk,rfl⟩:=hp
  rfl)]
 simp[cz]
theorem mJ {a:aZ} {nx:Int} {us:Bool} {A A2:Option Addr} {m mq:Nat} {ct:Nat->Int} {PA:Nat->Option Addr} {pn pc:Nat->Nat} {z:Nat->Nat->Int} {QA:Nat->Option Addr} {qn qc:Nat->Nat} {y:Nat->Nat->Int} (g:Nat) (W R:Nat->Prop) (V:World) (h:dK V g (eB a (bi nx us) m ct pn z mq qn y) W R) (hn:0<=nx/\nx < 4294967296) (hu:us=true->nx=0) (hm:m<=1000000) (hmq:mq<=1000000) (h1:fC V A m ct PA pn pc z) (h2:dW V A2 mq QA qn qc y) :
  Calls Tryz.prog 15 #[.pointer (some ⟨g,0,none⟩)] V fun e w'=>∃pA c qA d,e=.returned (.agg #[.int .u32 nx,.bool us,.slice pA m c,.slice qA mq d])/\jd w' pA A m/\jo w' qA A2 mq/\Below V.heap.size V w':=by
 have em:(cz m ct pn z).length=m:=by simp[cz]
 have eq:(ee mq qn y).length=mq:=by simp[ee]
 refine(pX g _ W R V h ⟨by show(cz m ct pn z).length<=_;omega,by show(ee mq qn y).length<=_;omega⟩).mono ?_
 rintro e w' ⟨pA,c,qA,d,rfl,hx,hb⟩
 obtain⟨e1,e2⟩:=nu hn hu
 obtain⟨s1,s2⟩:=ua hx (h1.below hb) (h2.below hb)
 refine⟨pA,c,qA,d,?_,s1,s2,hb⟩
 show Ending.returned (.agg #[.int .u32 (bi nx us % 4294967296),.bool (decide (bi nx us=4294967296)),.slice pA (cz m ct pn z).length c,.slice qA (ee mq qn y).length d])=_
 rw[e1,e2,em,eq]
theorem rL (cf:aZ) (X:Obj):ma (ls cf X):=⟨by unfold ls;simp[zc],fun e he=>(by cases he),Int.le_refl _,.inl rfl,by show(0:Int)-0<=2048;decide⟩
theorem qg {cf:aZ} {N:Int} {m mq:Nat} {ct:Nat->Int} {pn qn:Nat->Nat} {z y:Nat->Nat->Int} (hok:cf.Ok) (hv:cf.Valid):((eB cf N m ct pn z mq qn y).moved cf).Fine:=⟨hok,hv,fun q hq=>by
 have hq':q∈(ee mq qn y).map (fun q=>{ q with at_:=0 }):=hq
 obtain⟨x,_,rfl⟩:=List.mem_map.1 hq'
 exact⟨Int.le_refl _,Int.le_refl _⟩⟩
end Go.Proofs.YtiiojpnckbglcaaGreat

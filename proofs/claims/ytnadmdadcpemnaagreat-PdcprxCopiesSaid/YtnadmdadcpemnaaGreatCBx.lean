import Derived.Test.YtnadmdadcpemnaaGreatMDXx
namespace Go.Proofs.YtnadmdadcpemnaaGreat
open Go.RowKit
set_option linter.unusedVariables false
set_option linter.unusedSimpArgs false
attribute [local go_sem ↓] Go.wp_at_zero Go.wp_at_succ
private theorem zh {p:Prop} (h:p):Go.RowKit.Hid p:=h
set_option maxRecDepth 100000 in
set_option maxHeartbeats 6400000 in
theorem known_true (w:World):Calls Tryz.prog 9 #[] w fun e w'=>e=.returned (.bool true)∧Below w.heap.size w w':=by
 have HN0:=zh (fun W=>rnew_ok (cfR 0) W (cfR_valid 0 (by decide)))
 have HN5:=zh (fun W=>rnew_ok (cfR 5) W (cfR_valid 5 (by decide)))
 have HFI:=zh (fun W=>first_ok (cfR 0) (cfR_ok 0) (cfR_valid 0 (by decide)) rfl 3 (by omega) W)
 rw[cfR_arr]at HN0 HN5 HFI
 have HK2L:=zh (fun W=>known2_true W)
 go_enter Tryz.func9,Tryz.ntmps9
 go_upto_region 2 with (first
  | (go_at_call 10;refine(HN0.out _).mono ?_;rintro e w2 ⟨v,rfl,g,mS,mU,eb,X,rfl,hT,h1,h2,h3,h4,hB⟩;have HT:=zh hT;have HB:=zh hB;have HF:=zh (And.intro h1 (And.intro h2 (And.intro h3 h4)));clear hT h1 h2 h3 h4 hB))
 go_upto_region 6 with (first
  | (go_at_call 10;refine(HN5.out _).mono ?_;rintro e w3 ⟨v,rfl,g5,mS5,mU5,eb5,X5,rfl,hT,h1,h2,h3,h4,hB⟩;have HT5:=zh hT;have HB5:=zh hB;have HF5:=zh (And.intro h1 (And.intro h2 (And.intro h3 h4)));clear hT h1 h2 h3 h4 hB)
  | (go_at_call 27;refine(HFI.out _).mono ?_;rintro e w4 ⟨A4,c4,rfl,hF4⟩;have HF4:=zh hF4;clear hF4))
 obtain⟨L,hL,hSL,hP,hA,hBW,hBZ⟩:=HF4.out
 have HSL:=zh hSL
 have HP:=zh hP
 have HBW:=zh hBW
 have HL:=zh hL
 have HA:=zh hA
 clear hSL hP hA hBW hBZ hL HF4
 go_upto_region 8 with (fail)
 obtain⟨b,hb⟩:∃b,b=w4.heap.size:=⟨_,rfl⟩
 refine wp_let (fun V=>Below w4.heap.size w4 V∧Blk V (b+5) 3 #[.int .i64 0,.int .i64 2,.int .i64 1,.int .i64 1]∧Blk V (b+4) 35 #[.slice (some ⟨b,0,none⟩) 1 1,.slice (some ⟨b+1,0,none⟩) 0 0,.slice (some ⟨b+2,0,none⟩) 2 2,.slice (some ⟨b+3,0,none⟩) 0 0]∧Blk V b 5 #[.int .u8 0]∧Blk V (b+2) 5 #[.int .u8 1,.int .u8 2])
  ⟨((((((Below.refl _ w4).alloc (Nat.le_refl _) _).alloc (by simp<;>omega) _).alloc (by simp<;>omega) _).alloc (by simp<;>omega) _).alloc (by simp<;>omega) _).alloc (by simp<;>omega) _,
   by rw[hb];exact blk_atZ _ _ _ _ (by simp),by rw[hb];exact(blk_atZ _ _ _ _ (by simp)).alloc _,by rw[hb];exact(((((Blk.new _ _ _).alloc _).alloc _).alloc _).alloc _).alloc _,by rw[hb];exact(((blk_atZ _ _ _ _ (by simp)).alloc _).alloc _).alloc _⟩ ?_
 rintro W8 ⟨b8,o8,v8,x8,y8⟩
 have HB8:=zh b8
 have HO8:=zh (And.intro o8 (And.intro v8 (And.intro x8 y8)))
 have HBB:=zh hb
 rw[←hb]
 clear b8 o8 v8 x8 y8 hb
 rw[show b+1+1+1+1+1=b+5 from rfl,show b+1+1+1+1=b+4 from rfl]
 have hb3:Below w2.heap.size w2 w3:=HB5.out
 have hb4:Below w2.heap.size w2 w4:=hb3.trans (HBW.out.mono hb3.size)
 have hb8:Below w2.heap.size w2 W8:=hb4.trans (HB8.out.mono hb4.size)
 have HT8:=zh (HT.out.below hb8)
 have HWL:=zh HT.out.win
 clear hb3 hb4 hb8
 go_wp2
 go_loopw [8] (fun v8 wr=>∃(k:Nat) (l:List SE) (R:Nat→Prop),k≤4∧v8=.int .i64 k∧RxM wr g (kst X k) (fun k=>k=g∨k=mS∨k=mU∨k=eb) R mS l mU eb∧KeepF (fun k=>k=g∨k=mS∨k=mU∨k=eb) W8 wr∧(∀q,R q→W8.heap.size≤q)) (fun v8 _=>4-(intOf v8).toNat)
 case atStart=>exact⟨0,[],fun _=>False,by omega,rfl,HT8.out,KeepF.refl,fun q h=>h.elim⟩
 case round=>
  obtain⟨k,l,R,hk,rfl,hT,hK,hR⟩:=hrel
  have HTR:=zh hT
  have HKR:=zh hK
  have HRR:=zh hR
  clear hT hK hR
  by_cases hk4:k < 4
  rotate_left
  ·obtain rfl:k=4:=by omega
   have hs23:=HB5.out.size
   have hs34:=HBW.out.size
   have hs48:=HB8.out.size
   have hT5:RxM wr g5 (rnewS (cfR 5) X5) (fun k=>k=g5∨k=mS5∨k=mU5∨k=eb5) (fun _=>False) mS5 [] mU5 eb5:=((HT5.out.below HBW.out).below (HB8.out)).keepF HKR.out (fun q h=>⟨fun h5=>by
    have h1:=HWL.out q h
    have h2:=HF5.out
    rcases h5 with rfl | rfl | rfl | rfl<;>omega,fun h=>h⟩)
   have HT5r:=zh hT5
   have HTr:=zh HTR.out
   clear hT5
   have hpd:∀i,i < 3→∃p,L[i]? = some p∧Pdu1 wr w3.heap.size (cfR 0) i p:=fun i hi=>by
    have hil:i < L.length:=by rw[HL.out];exact hi
    refine⟨L[i],List.getElem?_eq_getElem hil,?_⟩
    have hpd:=(HP.out _ _ (List.getElem?_eq_getElem hil)).1
    exact(hpd.keep (KeepF.of_below (F:=fun _=>False) HB8.out) (fun _ _ h=>h)).keep HKR.out (fun a ha h=>by have:=hpd.2.2 a ha;have:=HWL.out _ h;omega)
   obtain⟨p0,hl0,hp0⟩:=hpd 0 (by decide)
   obtain⟨p2,hl2,hp2⟩:=hpd 2 (by decide)
   have hSLr:SL wr 35 1 A4 3 c4 (L.map (pv (cfR 0))):=(HSL.out.next HB8.out).keepF HKR.out (fun a ha h=>by have:=HA.out a ha;have:=HWL.out _ h;omega)
   obtain⟨ab,ao,hAA,hab⟩:=hSLr.some_ (by omega)
   have cA0:wr.cell? ⟨ab,ao,none⟩=some (.slice p0.1 (pduN (cfR 0) 1) p0.2):=by
    have h:=hSLr.cell (j:=0) hAA (by decide)
    rw[Nat.add_zero]at h
    rw[h,List.getElem?_map,hl0]
    rfl
   have cA2:wr.cell? ⟨ab,ao+2,none⟩=some (.slice p2.1 (pduN (cfR 0) 1) p2.2):=by
    rw[hSLr.cell (j:=2) hAA (by decide),List.getElem?_map,hl2]
    rfl
   have habw:w3.heap.size≤ab:=by rw[hAA]at HA;exact Nat.le_of_lt (HA.out _ rfl)
   have HW5:=zh (show ∀q,(q=g5∨q=mS5∨q=mU5∨q=eb5)→q < w3.heap.size from fun q h=>HT5.out.win _ h)
   have HX1:=zh (show(rnewS (cfR 5) X5).receive 0 (pduN (cfR 0) 1) (pduZ (cfR 0) 0 1 (fun _=>0))=([sv1 5 0],0,kS 5 X5 0 1 1 [] false 0 0 0)from k_next 5 X5 0 0 (by decide) 0 (by decide))
   have HX2:=zh (show(kS 5 X5 0 1 1 [] false 0 0 0).receive 1 (pduN (cfR 0) 1) (pduZ (cfR 0) 2 1 (fun _=>2))=([],0,kS 5 X5 1 1 3 [sv1 5 2] true 3 6 0)from k_gap5 5 (by decide) X5 0 1 (by decide))
   have HX3:=zh (k_wait X5)
   have HX4:=zh (k_due X5)
   have HRC1:=zh (recv_plain g5 (rnewS (cfR 5) X5) _ _ mS5 [] mU5 eb5 wr HT5r.out 5 rfl (by decide) (by decide) (by show(0:Int) < _;decide) 0 p0.1 (pduN (cfR 0) 1) p0.2 (pduZ (cfR 0) 0 1 (fun _=>0)) (by decide) hp0.2.1 (fun j _=>pduZ_lt (fun q hq=>nf_lt (cfR_ok 0).key hq) (fun _ _=>by omega) j) hp0.1 (fun a ha h=>by have:=hp0.2.2 a ha;have:=HW5.out _ h;omega))
   have HRC2:=zh (show ∀(R9:Nat→Prop) (l9:List SE) (W9:World),RxM W9 g5 (kS 5 X5 0 1 1 [] false 0 0 0) (fun k=>k=g5∨k=mS5∨k=mU5∨k=eb5) R9 mS5 l9 mU5 eb5→KeepF (fun k=>k=g5∨k=mS5∨k=mU5∨k=eb5) wr W9→Calls Tryz.prog 11 #[.pointer (some ⟨g5,0,none⟩),.int .i64 1,.slice p2.1 (pduN (cfR 0) 1) p2.2] W9 (RecvO g5 (kS 5 X5 0 1 1 [] false 0 0 0) (fun k=>k=g5∨k=mS5∨k=mU5∨k=eb5) R9 mS5 mU5 eb5 1 (pduN (cfR 0) 1) (pduZ (cfR 0) 2 1 (fun _=>2)) W9)from fun R9 l9 W9 hM hK=>by
    have hq:=hp2.keep hK (fun a ha h=>by have:=hp2.2.2 a ha;have:=HW5.out _ h;omega)
    have hl0:l9.length≤250:=by
     have h1:=congrArg List.length hM.lv
     rw[List.length_map]at h1
     rw[h1]
     show 0≤250
     decide
    exact recv_plain g5 _ _ R9 mS5 l9 mU5 eb5 W9 hM 5 rfl (by decide) hl0 (by show(0:Int) < _;decide) 1 p2.1 (pduN (cfR 0) 1) p2.2 (pduZ (cfR 0) 2 1 (fun _=>2)) (by decide) hq.2.1 (fun j _=>pduZ_lt (fun q hq=>nf_lt (cfR_ok 0).key hq) (fun _ _=>by omega) j) hq.1 (fun a ha h=>by have:=hq.2.2 a ha;have:=HW5.out _ h;omega))
   have HTK:=zh (show ∀(s:RS) (R9:Nat→Prop) (l9:List SE) (W9:World) (t:Int),RxM W9 g5 s (fun k=>k=g5∨k=mS5∨k=mU5∨k=eb5) R9 mS5 l9 mU5 eb5→s.C=cfR 5→s.L.length≤250→Calls Tryz.prog 13 #[.pointer (some ⟨g5,0,none⟩),.int .i64 t] W9 (TickO g5 s (fun k=>k=g5∨k=mS5∨k=mU5∨k=eb5) R9 mS5 mU5 eb5 t W9)from fun s R9 l9 W9 t hM hC hL=>by
    have h1:=congrArg List.length hM.lv
    rw[List.length_map]at h1
    exact tick_ok g5 s _ R9 mS5 l9 mU5 eb5 W9 hM (by rw[hC];show(0:Int)≤5∧(5:Int)≤_;decide) (by omega) t)
   have HA2:=zh (show ∀W',KeepF (fun k=>k=g5∨k=mS5∨k=mU5∨k=eb5) wr W'→W'.cell? ⟨ab,ao+2,none⟩=some (.slice p2.1 (pduN (cfR 0) 1) p2.2)from fun W' hW=>(hW.cell (p:=⟨ab,ao+2,none⟩) hab (fun h=>by have h1:=HW5.out _ h;simp only at h1;omega)).trans cA2)
   subst hAA
   clear hpd hl0 hl2 hp0 hp2 hSLr cA2 habw
   have k4:¬(4:Int) < 4:=by decide
   go_upto_region 15 with (go_at_call 11;refine(HRC1.out).mono ?_;rintro e u1 ⟨R1,l1,A1,c1,lo1,rfl,hM1,hm1,hp1,hT1,hr1,hr1b,hk1⟩;rw[HX1.out]at hm1 hT1 ⊢;have HM1:=zh (And.intro hM1 (And.intro hm1 hp1));have HT1:=zh hT1;have HR1:=zh hr1;have HK1:=zh hk1;clear hM1 hm1 hp1 hT1 hr1 hr1b hk1)
   have HRC2':=zh (HRC2.out R1 l1 u1 HT1.out HK1.out)
   have cA2:=HA2.out u1 HK1.out
   go_upto_region 16 with (go_at_call 11;refine(HRC2'.out).mono ?_;rintro e u2 ⟨R2,l2,A2,c2,lo2,rfl,hM2,hm2,hp2,hT2,hr2,hr2b,hk2⟩;rw[HX2.out]at hm2 hT2 ⊢;have HM2:=zh (And.intro hM2 (And.intro hm2 hp2));have HT2:=zh hT2;have HR2:=zh (And.intro hr2 hr2b);have HK2:=zh hk2;clear hM2 hm2 hp2 hT2 hr2 hr2b hk2)
   have HTK1:=zh (HTK.out _ R2 l2 u2 5 HT2.out rfl (by show 1≤250;decide))
   clear cA0 cA2
   go_upto_region 17 with (go_at_call 13;refine(HTK1.out).mono ?_;rintro e u3 ⟨l3,A3,c3,lo3,rfl,hM3,hm3,hp3,hT3,hk3⟩;rw[HX3.out]at hm3 hT3 ⊢;have HM3:=zh (And.intro hM3 (And.intro hm3 hp3));have HT3:=zh hT3;have HK3:=zh hk3;clear hM3 hm3 hp3 hT3 hk3)
   have HTK2:=zh (HTK.out _ R2 l3 u3 6 HT3.out rfl (by show 1≤250;decide))
   go_upto_region 18 with (go_at_call 13;refine(HTK2.out).mono ?_;rintro e u4 ⟨l4,A5,c5,lo4,rfl,hM4,hm4,hp4,hT4,hk4'⟩;rw[HX4.out]at hm4 hT4 ⊢;have HM4:=zh (And.intro hM4 (And.intro hm4 hp4));have HT4:=zh hT4;have HK4:=zh hk4';clear hM4 hm4 hp4 hT4 hk4')
   have hk24:KeepF (fun k=>k=g5∨k=mS5∨k=mU5∨k=eb5) u1 u4:=(HK2.out.trans HK3.out (fun _ _ h=>h)).trans HK4.out (fun _ _ h=>h)
   have hk34:KeepF (fun k=>k=g5∨k=mS5∨k=mU5∨k=eb5) u2 u4:=HK3.out.trans HK4.out (fun _ _ h=>h)
   have hk14:KeepF (fun k=>k=g5∨k=mS5∨k=mU5∨k=eb5) wr u4:=HK1.out.trans hk24 (fun _ _ h=>h)
   have HK14:=zh hk14
   have hlow:w3.heap.size≤wr.heap.size∧w3.heap.size≤u1.heap.size∧w3.heap.size≤u2.heap.size∧w3.heap.size≤u3.heap.size:=by
    have h1:=HKR.out.size
    have h2:=HK1.out.size
    have h3:=HK2.out.size
    have h4:=HK3.out.size
    omega
   have hG:∀(A:Option Addr) (c:Nat) (lo:List SE) (R':Nat→Prop) (V0 u:World) (s:RS) (l':List SE),OutM u V0.heap.size A c lo→(∀x,x∈lo→Pkt u R' x.A x.v.n x.c x.v.z)→RxM u g5 s (fun k=>k=g5∨k=mS5∨k=mU5∨k=eb5) R' mS5 l' mU5 eb5→w3.heap.size≤V0.heap.size→KeepF (fun k=>k=g5∨k=mS5∨k=mU5∨k=eb5) u u4→∀V,KeepF (fun _=>False) u4 V→∀(Bw:Option Addr) (m cb:Nat) (f:Nat→Int),Row V V.heap.size Bw m (fun j=>.int .u8 (f j))→lo.length=m→m≤1000000→(∀(k:Nat) (e:SE),lo[k]? = some e→e.v.n=1∧e.v.z 0=f k)→Calls Tryz.prog 28 #[.slice A lo.length c,.int .i64 0,.slice Bw m cb] V fun e w'=>e=.returned (.bool true)∧KeepF (fun _=>False) V w':=fun A c lo R' V0 u s l' hO hP hT hV hK V hKV Bw m cb f hB hm hm9 hv=>
    gets_yes A c lo R' Bw m cb f V ((hO.1.keepF hK (fun a ha h=>by have h1:=hO.2 a ha;have h2:=HW5.out _ h;omega)).keepF hKV (fun _ _ h=>h)) (fun x hx=>((hP x hx).keep hK (fun k h hr=>hT.dis k h hr)).keep hKV (fun _ h=>h.elim)) hB hm hm9 hv
   have HG1:=zh (hG A1 c1 lo1 R1 wr u1 _ l1 HM1.out.1 HM1.out.2.2 HT1.out hlow.1 hk24)
   have HG2:=zh (hG A2 c2 lo2 R2 u1 u2 _ l2 HM2.out.1 HM2.out.2.2 HT2.out hlow.2.1 hk34)
   have HG3:=zh (hG A3 c3 lo3 R2 u2 u3 _ l3 HM3.out.1 (fun x hx=>HM3.out.2.2 x hx) HT3.out hlow.2.2.1 HK4.out)
   have HG4:=zh (hG A5 c5 lo4 R2 u3 u4 _ l4 HM4.out.1 (fun x hx=>HM4.out.2.2 x hx) HT4.out hlow.2.2.2 KeepF.refl)
   have one:∀(lo:List SE) (k:Nat),lo.map (·.v)=[sv1 5 k]→lo.length=1∧∀(j:Nat) (e:SE),lo[j]? = some e→e.v.n=1∧e.v.z 0=(k:Int):=fun lo k h=>by
    have h1:=congrArg List.length h
    rw[List.length_map]at h1
    refine⟨h1,fun j e he=>?_⟩
    have h2:(lo.map (·.v))[j]? = some e.v:=by rw[List.getElem?_map,he];rfl
    rw[h]at h2
    rcases j with _ | j
    ·have h3:sv1 5 k=e.v:=by simpa using h2
     rw[←h3]
     exact⟨rfl,sv1_z 5 k⟩
    ·simp at h2
   have nol:∀(lo:List SE),lo.map (·.v)=[]→lo.length=0∧∀(j:Nat) (e:SE),lo[j]? = some e→e.v.n=1∧e.v.z 0=0:=fun lo h=>by
    have h1:lo=[]:=by simpa using h
    subst h1
    exact⟨rfl,fun j e he=>by simp at he⟩
   have L1:=zh (one lo1 0 HM1.out.2.1)
   have L2:=zh (nol lo2 HM2.out.2.1)
   have L3:=zh (nol lo3 HM3.out.2.1)
   have L4:=zh (one lo4 2 HM4.out.2.1)
   have hTg:RxM u4 g (kst X 4) (fun k=>k=g∨k=mS∨k=mU∨k=eb) R mS l mU eb:=HTr.out.keepF hk14 (fun q h=>⟨fun h5=>by
    have h1:=HWL.out q h5
    have h2:=HF5.out
    rcases h with rfl | rfl | rfl | rfl<;>omega,fun hr=>by
    have h1:=HRR.out q hr
    have h2:=HW5.out q h
    have h3:=HB8.out.size
    omega⟩)
   have HDU:=zh (dups_ok g (kst X 4) _ R mS l mU eb u4 hTg)
   have hd1:(kst X 4).dup=1:=rfl
   rw[hd1]at HDU
   have E0:KeepF (fun _=>False) u4 (u4.alloc (.cells #[.int .u8 0] 5)):=(KeepF.refl (F:=fun _=>False) (w:=u4)).alloc _
   have HE0:=zh E0
   have HG1a:=zh (HG1.out _ E0 (some ⟨u4.heap.size,0,none⟩) 1 1 (fun _=>0) (row_lit u4 #[.int .u8 0] 1 (fun _=>0) rfl (fun j hj=>by obtain rfl:j=0:=(by omega);rfl)) L1.out.1 (by decide) L1.out.2)
   have HG2a:=zh (fun V (hV:KeepF (fun _=>False) u4 V)=>HG2.out V hV none 0 0 (fun _=>0) (fun h=>absurd h (by decide)) L2.out.1 (by decide) L2.out.2)
   have HG3a:=zh (fun V (hV:KeepF (fun _=>False) u4 V)=>HG3.out V hV none 0 0 (fun _=>0) (fun h=>absurd h (by decide)) L3.out.1 (by decide) L3.out.2)
   have HG4a:=zh (fun V (hV:KeepF (fun _=>False) u4 V)=>HG4.out (V.alloc (.cells #[.int .u8 2] 5)) (hV.alloc _) (some ⟨V.heap.size,0,none⟩) 1 1 (fun _=>2) (row_lit V #[.int .u8 2] 1 (fun _=>2) rfl (fun j hj=>by obtain rfl:j=0:=(by omega);rfl)) L4.out.1 (by decide) L4.out.2)
   clear hk24 hk34 hk14 hlow hG one nol hTg hd1 E0
   go_wp2_with (first
    | (go_at_call 29;refine(HK2L.out _).mono ?_;rintro e v5 ⟨rfl,hB⟩;have E5:=zh hB;clear hB)
    | (go_at_call 28;with_reducible refine(HG4a.out v3 E3.out).mono ?_;rintro e v4 ⟨rfl,hk⟩;have E4:=zh ((E3.out.alloc _).trans hk (fun _ _ h=>h));clear hk)
    | (go_at_call 28;with_reducible refine(HG3a.out v2 E2.out).mono ?_;rintro e v3 ⟨rfl,hk⟩;have E3:=zh (E2.out.trans hk (fun _ _ h=>h));clear hk)
    | (go_at_call 28;with_reducible refine(HG2a.out v1 E1.out).mono ?_;rintro e v2 ⟨rfl,hk⟩;have E2:=zh (E1.out.trans hk (fun _ _ h=>h));clear hk)
    | (go_at_call 28;with_reducible refine(HG1a.out).mono ?_;rintro e v1 ⟨rfl,hk⟩;have E1:=zh (HE0.out.trans hk (fun _ _ h=>h));clear hk)
    | (go_at_call 17;refine(HDU.out).mono ?_;rintro e v0 ⟨rfl,hv0⟩;rw[←hv0];clear hv0 v0))
   go_ret
   have x1:=HB.out.trans (HB5.out.mono HB.out.size)
   have x2:=x1.trans (HBW.out.mono x1.size)
   have x3:=x2.trans (HB8.out.mono x2.size)
   have x4:=KeepF.below x3 HKR.out (fun k hk=>by
    have h1:=HF.out
    rcases hk with rfl | rfl | rfl | rfl<;>omega) x3.size
   have x5:=KeepF.below x4 HK14.out (fun k hk=>by
    have h1:=HF5.out
    have h2:=HB.out.size
    rcases hk with rfl | rfl | rfl | rfl<;>omega) x4.size
   have x6:=KeepF.below x5 E4.out (fun _ h=>h.elim) x5.size
   exact⟨rfl,x6.trans (E5.out.mono x6.size)⟩
  have hs23:=HB5.out.size
  have hs48:=HB8.out.size
  have hkl:kord k < L.length:=by rw[HL.out];unfold kord;split<;>(try split)<;>omega
  obtain⟨p,hp⟩:∃p,L[kord k]? = some p:=⟨_,List.getElem?_eq_getElem hkl⟩
  have hpd:=(HP.out _ _ hp).1
  have hpw:Pdu1 wr w3.heap.size (cfR 0) (kord k) p:=((hpd.keep (KeepF.of_below (F:=fun _=>False) HB8.out) (fun _ _ h=>h)).keep HKR.out (fun a ha h=>by have:=hpd.2.2 a ha;have:=HWL.out _ h;omega))
  have hSLr:SL wr 35 1 A4 3 c4 (L.map (pv (cfR 0))):=(HSL.out.next HB8.out).keepF HKR.out (fun a ha h=>by have:=HA.out a ha;have:=HWL.out _ h;omega)
  obtain⟨ab,ao,hAA,hab⟩:=hSLr.some_ (by omega)
  have cA:wr.cell? ⟨ab,ao+kord k,none⟩=some (.slice p.1 (pduN (cfR 0) 1) p.2):=by
   rw[hSLr.cell hAA (by rw[HL.out]at hkl;omega),List.getElem?_map,hp]
   rfl
  have hl12:l.length≤250:=by
   have h1:=congrArg List.length HTR.out.lv
   rw[List.length_map]at h1
   have:=kst_L X k
   omega
  have HREC:=zh (recv_plain g (kst X k) _ R mS l mU eb wr HTR.out 0 (kst_C X k) (by decide) hl12 (by have:=kst_dup X k;omega) 0 p.1 (pduN (cfR 0) 1) p.2 (pduZ (cfR 0) (kord k) 1 (fun _=>kord k)) (by decide) hpw.2.1 (fun j _=>pduZ_lt (fun q hq=>nf_lt (cfR_ok 0).key hq) (fun _ _=>by unfold kord;split<;>(try split)<;>omega) j) hpw.1 (fun a ha h=>by have:=hpw.2.2 a ha;have:=HWL.out _ h;omega))
  have HX:=zh (k_step X k hk4)
  have hb4w:∀q,(q=g∨q=mS∨q=mU∨q=eb)→q < b:=fun q h=>by have:=HWL.out _ h;have:=HBB.out;have:=HBW.out.size;omega
  have o8:=HKR.out.blk HO8.out.1 (fun h=>by have:=hb4w _ h;omega)
  have v8:=HKR.out.blk HO8.out.2.1 (fun h=>by have:=hb4w _ h;omega)
  have x8:=HKR.out.blk HO8.out.2.2.1 (fun h=>by have:=hb4w _ h;omega)
  have y8:=HKR.out.blk HO8.out.2.2.2 (fun h=>by have:=hb4w _ h;omega)
  have co:wr.cell? ⟨b+5,k,none⟩=some (.int .i64 (kord k:Nat)):=(o8.cell k).trans (by
   rcases (by omega:k=0∨k=1∨k=2∨k=3)with rfl | rfl | rfl | rfl<;>rfl)
  have cv:∀W',KeepF (fun k=>k=g∨k=mS∨k=mU∨k=eb) wr W'→W'.cell? ⟨b+4,k,none⟩=some (.slice (some ⟨b+k,0,none⟩) (kout k).length (kout k).length)∧Row W' W'.heap.size (some ⟨b+k,0,none⟩) (kout k).length (fun j=>.int .u8 (kwant k j)):=fun W' hW=>by
   have v9:=hW.blk v8 (fun h=>by have:=hb4w _ h;omega)
   have x9:=hW.blk x8 (fun h=>by have:=hb4w _ h;omega)
   have y9:=hW.blk y8 (fun h=>by have:=hb4w _ h;omega)
   rcases (by omega:k=0∨k=1∨k=2∨k=3)with rfl | rfl | rfl | rfl
   ·exact⟨v9.cell 0,fun _=>⟨b,0,rfl,x9.lt,fun j hj=>by
     obtain rfl:j=0:=by have:j < 1:=hj;omega
     exact x9.cell 0⟩⟩
   ·exact⟨v9.cell 1,fun h=>absurd h (by show ¬0 < 0;omega)⟩
   ·exact⟨v9.cell 2,fun _=>⟨b+2,0,rfl,y9.lt,fun j hj=>by
     have:j < 2:=hj
     rcases (by omega:j=0∨j=1)with rfl | rfl
     ·exact y9.cell 0
     ·exact y9.cell 1⟩⟩
   ·exact⟨v9.cell 3,fun h=>absurd h (by show ¬0 < 0;omega)⟩
  have HCV:=zh cv
  obtain⟨ko,hko⟩:∃q,q=kord k:=⟨_,rfl⟩
  have hko3:ko < 3:=by rw[hko];unfold kord;split<;>(try split)<;>omega
  rw[←hko]at co cA HREC HX
  have k0:(0:Int)≤(k:Int):=by omega
  have k1:(k:Int) < 4:=by omega
  have q0:(0:Int)≤(ko:Int):=by omega
  have q1:(ko:Int) < 3:=by omega
  subst hAA
  clear o8 v8 x8 y8 cv hpw hSLr hp hpd hkl hko
  go_upto_region 12 with (go_at_call 11;refine(HREC.out).mono ?_;rintro e w9 ⟨R9,l9,A9,c9,lo9,rfl,hM9,hm9,hp9,hT9,hr9,hr9b,hk9⟩;rw[HX.out]at hm9 hT9 ⊢;have HM9:=zh (And.intro hM9 (And.intro hm9 hp9));have HT9:=zh hT9;have HR9:=zh hr9;have HK9:=zh hk9;clear hM9 hm9 hp9 hT9 hr9 hr9b hk9)
  have hsl9:=HM9.out.2.1
  obtain⟨cv4,rv4⟩:=HCV.out w9 HK9.out
  have hlen9:lo9.length=(kout k).length:=by rw[←HM9.out.2.1,List.length_map]
  have HGT:=zh (gets_yes A9 c9 lo9 R9 (some ⟨b+k,0,none⟩) (kout k).length (kout k).length (kwant k) w9 HM9.out.1.1 HM9.out.2.2 rv4 hlen9 (by have:(kout k).length≤2:=(by unfold kout;split<;>(try split)<;>decide);omega) (fun j e he=>by
   have h1:(kout k)[j]? = some e.v:=by rw[←HM9.out.2.1,List.getElem?_map,he];rfl
   exact k_out k hk4 j e.v h1))
  clear hsl9 rv4 hlen9
  go_wp2_with (go_at_call 28;refine(HGT.out).mono ?_;rintro e w10 ⟨rfl,hk10⟩;have HK10:=zh hk10;clear hk10)
  go_roundw
  case rel=>exact⟨k+1,l9,R9,by omega,by go_num,HT9.out.keepF HK10.out (fun _ h=>h.elim),(HKR.out.trans HK9.out (fun _ _ h=>h)).trans HK10.out (fun _ _ h=>h.elim),fun q hq=>by
   rcases HR9.out q hq with h | h
   ·exact HRR.out q h
   ·have:=HKR.out.size;omega⟩
  case measure=>simp[intOf];omega
end Go.Proofs.YtnadmdadcpemnaaGreat

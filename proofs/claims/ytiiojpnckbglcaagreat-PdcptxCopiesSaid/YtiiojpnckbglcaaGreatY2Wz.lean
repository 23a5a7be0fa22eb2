import Derived.Test.YtiiojpnckbglcaaGreatMY2Fz
import Derived.Test.YtiiojpnckbglcaaGreatMZMz
set_option maxRecDepth 100000
set_option maxHeartbeats 6400000
set_option linter.unusedVariables false
set_option linter.unusedSimpArgs false
namespace Go.Proofs.YtiiojpnckbglcaaGreat
open Go.RowKit
attribute [local go_sem ↓] Go.wp_at_zero Go.wp_at_succ
def SV.arr (x:SV):Array Value:=Array.ofFn (n:=36) fun j=>x.cell j.1
theorem SV.arr_size (x:SV):x.arr.size=36:=Array.size_ofFn
theorem SV.arr_at (x:SV) {j:Nat} (hj:j < 36):x.arr[j]? = some (x.cell j):=by
 unfold SV.arr;rw[Array.getElem?_ofFn,dif_pos hj]
theorem nu {m most:Nat} {S:Nat->SV} (h:gS m most S=true):m<=most:=by
 unfold gS at h;rw[Bool.and_eq_true]at h
 exact of_decide_eq_true h.1
theorem ko (cf:aP) (hok:cf.Ok) (A1:Option Addr) (m1 c1:Nat) (S1:Nat->SV) (hm1:m1<=maxLen) (A2:Option Addr) (m2 c2:Nat) (S2:Nat->SV) (hm2:m2<=maxLen) (w:World) (h1:fh w A1 m1 S1) (h2:fh w A2 m2 S2) :
  Calls Tryz.prog 4 #[.agg cf.arr,.slice A1 m1 c1,.slice A2 m2 c2] w fun e w'=>e=.returned (.bool true)/\Below w.heap.size w w':=by
 have HKN:=zh (fun V=>kr V);have HCF:=zh hok;have HS1:Hid ((Tryz.prog.info? 25).map (·.size)=some cf.arr.size):=zh (by rw[cf.arr_size];exact gA);have HF1:=zh (show ∀V,Below w.heap.size w V->Calls Tryz.prog 17 #[.slice A1 m1 c1,.int .i64 20] V fun e w'=>e=.returned (.bool (gS m1 20 S1))/\Below V.heap.size V w' from fun V hb=>lf A1 m1 c1 20 S1 (by decide) V (h1.below hb) hm1);have HF2:=zh (show ∀V,Below w.heap.size w V->Calls Tryz.prog 17 #[.slice A2 m2 c2,.int .i64 20] V fun e w'=>e=.returned (.bool (gS m2 20 S2))/\Below V.heap.size V w' from fun V hb=>lf A2 m2 c2 20 S2 (by decide) V (h2.below hb) hm2);have HNG:=zh (fun(hv:cf.Valid) V=>j5 cf hv V);have HNB:=zh (fun(hv:¬cf.Valid) V=>rf cf hv V);have HSA:=zh h1;have HSB:=zh h2;have HUS:=zh Tryz.underlying56;obtain⟨Y,hY⟩:=af cf.arr
 rw[<-hY]at HNG HNB HS1 ⊢;have HU:=zh Tryz.underlying25;unfold maxLen at hm1 hm2;clear hY hok h1 h2;go_enter Tryz.func4,Tryz.ntmps4;go_upto_region 1 with (fail)
 obtain⟨g,hg⟩:=af w.heap.size
 refine ah (fun W=>ae W g 25 Y/\Below w.heap.size w W) ⟨by rw[hg];exact ae.new _ _ _,(Below.refl _ w).alloc aB _⟩ ?_;rintro W1 ⟨b1,b2⟩;have D1:=zh b1;have D2:=zh b2;rw[<-hg];clear b1 b2 hg;by_cases hfew:¬(gS m1 20 S1=true/\gS m2 20 S2=true)
 ·cases hb1:gS m1 20 S1
  ·rw[hb1]at HF1;go_wp2_with (first
    | (go_at_call 17;with_reducible refine(HF1.out _ D2.out).mono ?_;rintro e w3 ⟨rfl,hB⟩;have E2:=zh (D2.out.trans (hB.mono D2.out.size));clear hB)
    | (go_at_call 18;refine(HKN.out _).mono ?_;rintro e w4 ⟨rfl,hB⟩;have E3:=zh (E2.out.trans (hB.mono E2.out.size));clear hB))
   go_ret
   exact⟨rfl,E3.out⟩
  ·have hb2:gS m2 20 S2=false:=by
    cases h:gS m2 20 S2
    ·rfl
    ·exact absurd ⟨hb1,h⟩ hfew
   rw[hb1]at HF1;rw[hb2]at HF2;go_wp2_with (first
    | (go_at_call 17;with_reducible refine(HF1.out _ D2.out).mono ?_;rintro e w3 ⟨rfl,hB⟩;have E2:=zh (D2.out.trans (hB.mono D2.out.size));clear hB)
    | (go_at_call 17;with_reducible refine(HF2.out _ E2.out).mono ?_;rintro e w3' ⟨rfl,hB⟩;have E4:=zh (E2.out.trans (hB.mono E2.out.size));clear hB)
    | (go_at_call 18;refine(HKN.out _).mono ?_;rintro e w4 ⟨rfl,hB⟩;have E3:=zh (E4.out.trans (hB.mono E4.out.size));clear hB))
   go_ret
   exact⟨rfl,E3.out⟩
 obtain⟨hb1,hb2⟩:=Classical.not_not.1 hfew;have HM1:=zh (nu hb1);have HM2:=zh (nu hb2);rw[hb1]at HF1;rw[hb2]at HF2;clear hfew hb1 hb2;go_upto_region 3 with (first
  | (go_at_call 17;with_reducible refine(HF1.out _ D2.out).mono ?_;rintro e w3 ⟨rfl,hB⟩;have E2:=zh (D2.out.trans (hB.mono D2.out.size));have E1:=zh (D1.out.below hB D1.out.lt);clear hB)
  | (go_at_call 17;with_reducible refine(HF2.out _ E2.out).mono ?_;rintro e w3' ⟨rfl,hB⟩;have F2:=zh (E2.out.trans (hB.mono E2.out.size));have F1:=zh (E1.out.below hB E1.out.lt);clear hB))
 by_cases hv:cf.Valid;rotate_left
 ·have HNBV:=zh (HNB.out hv);clear hv;go_wp2_with (first
   | (refine wpList_load_row rfl _ _ rfl g rfl 25 Y (0,0) _ F1.out HU.out rfl HS1.out ?_)
   | (go_at_call 19;refine(HNBV.out _).mono ?_;rintro e w5 ⟨rfl,hB⟩;have G2:=zh (F2.out.trans (hB.mono F2.out.size));clear hB)
   | (go_at_call 18;refine(HKN.out _).mono ?_;rintro e w6 ⟨rfl,hB⟩;have G3:=zh (G2.out.trans (hB.mono G2.out.size));clear hB))
  go_ret
  exact⟨rfl,G3.out⟩
 have HNGV:=zh (HNG.out hv);have HVV:=zh hv;clear hv HNB HNG;go_upto_region 8 with (first
  | (refine wpList_load_row rfl _ _ rfl g rfl 25 Y (0,0) _ F1.out HU.out rfl HS1.out ?_)
  | (go_at_call 19;refine(HNGV.out _).mono ?_;rintro e w5 ⟨g5,rfl,W4,R4,hT,q1,q2,hB⟩;have HT:=zh hT;have G2:=zh (F2.out.trans (hB.mono F2.out.size));have HQ1:=zh q1;clear hT q1 q2 hB))
 have hO0:O5 w w5 R4 g5 W4 (gT cf):=⟨HT.out,fun k hk=>bj F2.out.size (HQ1.out k hk)⟩
 have HO0:=zh hO0;have HI0:=zh (show RT 0 (gT cf) [cf.key]from ⟨jE HCF.out HVV.out,rfl,pU _ (Int.le_refl _),Nat.le_refl _,Nat.le_refl _,Int.le_refl _⟩);obtain⟨s0,hs0⟩:=af (gT cf)
 rw[<-hs0]at HO0 HI0;obtain⟨U0,hU0⟩:=af ([cf.key])
 rw[<-hU0]at HI0;clear hO0 hs0 hU0 HT HQ1 F1 F2 E1 E2 D1 D2;have m140:(m1:Int)<=20:=by have:=HM1.out;omega
 have m240:(m2:Int)<=20:=by have:=HM2.out;omega
 have m10:(0:Int)<=(m1:Int):=by omega
 have m20:(0:Int)<=(m2:Int):=by omega
 clear hm1 hm2;have HLD:=zh (show ∀(A:Option Addr) (m:Nat) (S:Nat->SV) (wr:World),fh w A m S->Below w.heap.size w wr->∀i,i < m->∃lb lo,A=some ⟨lb,lo,none⟩/\wr.rangeAt lb (lo+i*36) (S i).arr.toList/\iC w (S i)from fun A m S wr hst hlow i hlt=>by
  obtain⟨lb,lo,e,hlb,hlc⟩:=hst.at_ (by omega);refine⟨lb,lo,e,fun j v hv=>?_,hst.ok i hlt⟩;have hj:j < 36:=by have:=(List.getElem?_eq_some_iff.1 hv).1;simpa[SV.arr_size]using this
  rw[hlow.cell (p:=⟨lb,lo+i*36+j,none⟩) hlb,hlc i hlt j hj,<-hv,Array.getElem?_toList,SV.arr_at _ hj])
 go_wp2;go_loopw [9] (fun v9 wr=>∃(i:Nat) (W R:Nat->Prop) (s:TS) (U:List (Nat->Int)),i<=m1/\v9=.int .i64 i/\O5 w wr R g5 W s/\Below w.heap.size w wr/\RT i s U) (fun v9 _=>m1-(intOf v9).toNat)
 case atStart=>exact⟨0,W4,R4,s0,U0,by omega,rfl,HO0.out,G2.out,HI0.out⟩
 case round=>
  clear HO0 HI0 G2;obtain⟨i,W4,R,s,U,hi,rfl,hO,hlow,hri⟩:=hrel;have HO:=zh hO;have HLO:=zh hlow;have HRI:=zh hri;have i0:(0:Int)<=(i:Int):=by omega
  clear hO hlow hri;by_cases hlt:i < m1
  ·have i1:(i:Int) < (m1:Int):=by omega
   obtain⟨lb,lo,hAA,hrg,hsv⟩:=HLD.out A1 m1 S1 wr HSA.out HLO.out i hlt;have HC:=zh (HO.out.call HLO.out HRI.out (by have:=HM1.out;omega) (S1 i) hsv (S1 i).arr (S1 i).arr_size (fun j hj=>(S1 i).arr_at hj));have HIC:=zh (HRI.out.call hsv);have HSZ:Hid ((Tryz.prog.info? 56).map (·.size)=some (S1 i).arr.toList.length):=zh (by rw[Array.length_toList,SV.arr_size];exact kz);have HRG:=zh hrg;obtain⟨XC,hXC⟩:=af ((S1 i).arr)
   rw[<-hXC]at HC HSZ HRG;have HLT:=zh hlt;subst hAA;clear hXC hrg hsv hlt;go_wp2_with (first
    | (refine wpList_load_mid rfl _ _ rfl lb (lo+i*36) rfl XC.toList _ HRG.out HUS.out rfl HSZ.out ?_)
    | (go_at_call 20;refine(HC.out).mono ?_;rintro e w6 ⟨A6,c6,W6',R6',rfl,hr6,⟨ho,hl,_,_,_,_⟩,hK6,hA6⟩;have HO6:=zh ho;have HL6:=zh hl;clear hr6 ho hl hK6 hA6))
   go_roundw
   case rel=>exact⟨i+1,W6',R6',_,_,HLT.out,by go_num,HO6.out,HL6.out,HIC.out⟩
   case measure=>have:=HLT.out;simp[intOf];omega
  ·obtain rfl:m1=i:=by omega
   have i1:¬(m1:Int) < (m1:Int):=by omega
   clear hlt hi;have HCP:=zh (fun V (hb:Below wr.heap.size wr V) (ho:O5 w V R g5 W4 s)=>O5.copy ho (HLO.out.trans (hb.mono HLO.out.size)) HRI.out (by have:=HM1.out;omega));go_upto_region 13 with (first
    | (go_at_call 21;refine(HCP.out _ (Below.refl _ _) HO.out).mono ?_;rintro e w6 ⟨g6,W6,rfl,hc6,hc5,hW6,hB6⟩;have HC6:=zh hc6;have HC5:=zh hc5;have HW6:=zh hW6;have HB6:=zh hB6;clear hc6 hc5 hW6 hB6)
    | (go_at_call 21;refine(HCP.out _ HB6.out HC5.out).mono ?_;rintro e w7 ⟨g7,W7,rfl,hc7,hc5,hW7,hB7⟩;have HC7:=zh hc7;have HC57:=zh hc5;have HW7:=zh hW7;have HB7:=zh hB7;clear hc7 hc5 hW7 hB7))
   have hW4:∀k,W4 k->k < wr.heap.size:=HO.out.1.wins.1;have hl7:Below wr.heap.size wr w7:=HB6.out.trans (HB7.out.mono HB6.out.size);have hTr:nM w w7 R g5 W4 s g6 W6 s g7 W7 s:=⟨HC57.out,HC6.out.below HB7.out,HC7.out,fun k h1 h2=>by have:=hW4 k h1;have:=(HW6.out k h2).1;omega,fun k h1 h2=>by have:=hW4 k h1;have:=(HW7.out k h2).1;have:=HB6.out.size;omega,fun k h1 h2=>by have:=(HW6.out k h1).2;have:=(HW7.out k h2).1;omega,HLO.out.trans (hl7.mono HLO.out.size)⟩
   have HTR:=zh hTr;have HR4:=zh (HRI.out.more HM1.out);clear hW4 hl7 hTr HC57 HC6 HC7 HC5 HW6 HW7 HB6 HB7 HO HLO HRI HCP;go_wp2;go_loopw [12] (fun v12 wr=>∃(j:Nat) (W7 R:Nat->Prop) (sv:TS) (Uv:List (Nat->Int)),j<=m2/\v12=.int .i64 j/\nM w wr R g5 W4 s g6 W6 s g7 W7 sv/\RT (20+2*j) sv Uv) (fun v12 _=>m2-(intOf v12).toNat)
   case atStart=>exact⟨0,W7,R,s,U,by omega,rfl,HTR.out,HR4.out⟩
   case round=>
    clear HTR;obtain⟨j,W7,R,sv,Uv,hj,rfl,hT,hri⟩:=hrel;have HTR:=zh hT;have HRI:=zh hri;have j0:(0:Int)<=(j:Int):=by omega
    clear hT hri;by_cases hlt:j < m2
    ·have j1:(j:Int) < (m2:Int):=by omega
     have hj40:j < 20:=by have:=HM2.out;omega
     obtain⟨lb,lo,hAA,hrg,hsv⟩:=HLD.out A2 m2 S2 wr HSB.out HTR.out.low j hlt;have HC:=zh (HTR.out.rot.rot.call HRI.out (by omega) (S2 j) hsv (S2 j).arr (S2 j).arr_size (fun q hq=>(S2 j).arr_at hq));have HIC:=zh (HRI.out.call hsv);have HIC2:=zh (HIC.out.call hsv);have HC2:=zh (fun V W' R' (h:nM w V R' g7 W' (sv.call5 Uv (S2 j)).r.s g5 W4 s g6 W6 s)=>h.call HIC.out (by omega) (S2 j) hsv (S2 j).arr (S2 j).arr_size (fun q hq=>(S2 j).arr_at hq));have HRGA:=zh (show ∀V,Below w.heap.size w V->V.rangeAt lb (lo+j*36) (S2 j).arr.toList from fun V hb=>by
      obtain⟨lb',lo',e,h1,h2⟩:=HLD.out A2 m2 S2 V HSB.out hb j hlt;rw[hAA]at e
      cases e
      exact h1)
     have HSZ:Hid ((Tryz.prog.info? 56).map (·.size)=some (S2 j).arr.toList.length):=zh (by rw[Array.length_toList,SV.arr_size];exact kz);have HRG:=zh hrg;obtain⟨XC,hXC⟩:=af ((S2 j).arr)
     rw[<-hXC]at HC HC2 HSZ HRG HRGA;have HLT:=zh hlt;have HAA:=zh hAA;rw[hAA];clear hXC hrg hsv hlt hAA hj40;go_upto_region 19 with (first
      | (refine wpList_load_mid rfl _ _ rfl lb (lo+j*36) rfl XC.toList _ HRG.out HUS.out rfl HSZ.out ?_)
      | (go_at_call 20;refine(HC.out).mono ?_;rintro e w8 ⟨A8,c8,W8,R8,rfl,hr8,ht8,hK8,hA8⟩;have HT8:=zh ht8;clear hr8 ht8 hK8 hA8))
     have HRG8:=zh (HRGA.out _ HT8.out.low);have HC8:=zh (HC2.out _ _ _ HT8.out);go_wp2_with (first
      | (refine wpList_load_mid rfl _ _ rfl lb (lo+j*36) rfl XC.toList _ HRG8.out HUS.out rfl HSZ.out ?_)
      | (go_at_call 20;refine(HC8.out).mono ?_;rintro e w9 ⟨A9,c9,W9,R9,rfl,hr9,ht9,hK9,hA9⟩;have HT9:=zh ht9;clear hr9 ht9 hK9 hA9))
     go_roundw
     case rel=>exact⟨j+1,W9,R9,_,_,HLT.out,by go_num,HT9.out.rot,HIC2.out⟩
     case measure=>have:=HLT.out;simp[intOf];omega
    ·obtain rfl:m2=j:=by omega
     have j1:¬(m2:Int) < (m2:Int):=by omega
     have HTR0:=HTR;clear hlt hj HTR HRI;go_wp2;go_loopw [13] (fun v13 wr=>∃(q:Nat) (W4 W6 R:Nat->Prop) (sr:TS) (Ur:List (Nat->Int)),q<=m2/\v13=.int .i64 q/\nM w wr R g5 W4 sr g6 W6 sr g7 W7 sv/\RT (20+q) sr Ur) (fun v13 _=>m2-(intOf v13).toNat)
     case atStart=>exact⟨0,W4,W6,R,s,U,by omega,rfl,HTR0.out,HR4.out⟩
     case round=>
      clear HTR0 HR4;obtain⟨q,W4,W6,R,sr,Ur,hq,rfl,hT,hri⟩:=hrel;have HTR:=zh hT;have HRI:=zh hri;have q0:(0:Int)<=(q:Int):=by omega
      clear hT hri;by_cases hlt:q < m2
      ·have q1:(q:Int) < (m2:Int):=by omega
       have hq40:q < 20:=by have:=HM2.out;omega
       obtain⟨lb,lo,hAA,hrg,hsv⟩:=HLD.out A2 m2 S2 wr HSB.out HTR.out.low q hlt;have HC:=zh (HTR.out.call HRI.out (by omega) (S2 q) hsv (S2 q).arr (S2 q).arr_size (fun j hj=>(S2 q).arr_at hj));have HIC:=zh (HRI.out.call hsv);have HC2:=zh (fun V W' R' (h:nM w V R' g6 W6 sr g7 W7 sv g5 W' (sr.call5 Ur (S2 q)).r.s)=>h.call HRI.out (by omega) (S2 q) hsv (S2 q).arr (S2 q).arr_size (fun j hj=>(S2 q).arr_at hj));have HRGA:=zh (show ∀V,Below w.heap.size w V->V.rangeAt lb (lo+q*36) (S2 q).arr.toList from fun V hb=>by
        obtain⟨lb',lo',e,h1,h2⟩:=HLD.out A2 m2 S2 V HSB.out hb q hlt;rw[hAA]at e
        cases e
        exact h1)
       have HSZ:Hid ((Tryz.prog.info? 56).map (·.size)=some (S2 q).arr.toList.length):=zh (by rw[Array.length_toList,SV.arr_size];exact kz);have HRG:=zh hrg;obtain⟨XC,hXC⟩:=af ((S2 q).arr)
       obtain⟨rr,hrr⟩:=af (sr.call5 Ur (S2 q))
       rw[<-hXC]at HC HC2 HSZ HRG HRGA;rw[<-hrr]at HC HC2 HIC;have HLT:=zh hlt;have HAA:=zh hAA;have HQ40:=zh hq40;rw[hAA];clear hXC hrr hrg hsv hlt hAA hq40;go_upto_region 24 with (first
        | (refine wpList_load_mid rfl _ _ rfl lb (lo+q*36) rfl XC.toList _ HRG.out HUS.out rfl HSZ.out ?_)
        | (go_at_call 20;refine(HC.out).mono ?_;rintro e w8 ⟨A8,c8,W8,R8,rfl,hr8,ht8,hK8,hA8⟩;have HT8:=zh ht8;have HR8:=zh hr8;have HA8:=zh hA8;clear hr8 ht8 hK8 hA8))
       have HRG8:=zh (HRGA.out _ HT8.out.low);have HC8:=zh (HC2.out _ _ _ HT8.out.rot);go_upto_region 25 with (first
        | (refine wpList_load_mid rfl _ _ rfl lb (lo+q*36) rfl XC.toList _ HRG8.out HUS.out rfl HSZ.out ?_)
        | (go_at_call 20;refine(HC8.out).mono ?_;rintro e w9 ⟨A9,c9,W9,R9,rfl,hr9,ht9,hK9,hA9⟩;have HT9:=zh ht9;have HR9:=zh hr9;have HK9:=zh hK9;clear hr9 ht9 hK9 hA9))
       have hw6:=HTR.out.b.1.wins.1;have HR7:=zh ((HK9.out.row HR8.out aB (fun a ha _ hw=>by have:=HA8.out a ha;have:=hw6 _ hw;omega)).more HK9.out.size);have HLF:=zh (show rr.r.s.P.length<=1000000/\rr.r.s.Q.length<=1000000 from by have h1:=HIC.out.pl;have h2:=HIC.out.ql;have:=HQ40.out;omega);have HE1:=zh (fun V (hb:Below w9.heap.size w9 V)=>O5.export (HT9.out.rot.rot.a.below hb) HLF.out);have HE2:=zh (fun V (hb:Below w9.heap.size w9 V)=>O5.export (HT9.out.rot.rot.b.below hb) HLF.out);have HD1:=zh (fun V (hb:Below w9.heap.size w9 V)=>O5.reps (HT9.out.rot.rot.a.below hb) HLF.out.1);have HD2:=zh (fun V (hb:Below w9.heap.size w9 V)=>O5.reps (HT9.out.rot.rot.b.below hb) HLF.out.1);have HLN:=zh (show rr.r.s.P.length<=maxLen/\rr.r.s.Q.length<=maxLen by have:=HLF.out;unfold maxLen;omega);have s1:=cI (P:=Tryz.prog) (w:=w9) 44 9 5 Tryz.underlying44 Tryz.underlying5 Tryz.underlying9 HR7.out c8;have s2:=cI (P:=Tryz.prog) (w:=w9) 44 9 5 Tryz.underlying44 Tryz.underlying5 Tryz.underlying9 HR9.out c9;obtain⟨nn,hnn⟩:∃q,q=rr.r.n:=⟨_,rfl⟩
       obtain⟨nc,hnc⟩:∃q,q=rr.r.ct:=⟨_,rfl⟩
       obtain⟨ne,hne⟩:∃q,q=rr.r.e:=⟨_,rfl⟩
       obtain⟨bs,hbs⟩:∃q,q=eT rr.r.n (fun j=>((rr.r.z j:Nat):Int)):=⟨_,rfl⟩
       rw[<-hbs]at s1 s2;rw[<-hnn]at s1 s2 ⊢;rw[<-hnc,<-hne];have g1:(nc != nc)=false:=by simp
       have g2:(ne != ne)=false:=by simp
       obtain⟨rp,hrp⟩:∃q:Int,q=((eA rr.r.s.P:Nat):Int):=⟨_,rfl⟩
       rw[<-hrp]at HD1 HD2;have g3:(rp != rp)=false:=by simp
       clear hw6 hnn hnc hne hbs hrp;go_wp2_with (first
        | (go_at_call 15;(with_reducible refine(HE1.out _ (Below.refl _ _)).mono ?_);rintro e v2 ⟨A2',c2',B2',d2',rfl,hC2,hB⟩;have HV2:=zh hB;have HCC2:=zh hC2;clear hC2 hB)
        | (go_at_call 15;(with_reducible refine(HE2.out _ HV2.out).mono ?_);rintro e v3 ⟨A3',c3',B3',d3',rfl,hC3,hB⟩;have HV3:=zh (HV2.out.trans (hB.mono HV2.out.size));have HSM:=zh (rO (HCC2.out.below hB) hC3);clear hC3 hB)
        | (go_at_call 14;refine(mu _ _ _ _ _ _ _ _ _ _ _ _ v3 HLN.out.1 HLN.out.2 HSM.out.1 HSM.out.2).mono ?_;rintro e v4 ⟨rfl,hB⟩;have HV4:=zh (HV3.out.trans (hB.mono HV3.out.size));clear hB)
        | (go_at_call 16;with_reducible refine(HD1.out _ HV4.out).mono ?_;rintro e v5 ⟨rfl,hB⟩;have HV5:=zh (HV4.out.trans (hB.mono HV4.out.size));clear hB)
        | (go_at_call 16;with_reducible refine(HD2.out _ HV5.out).mono ?_;rintro e v6 ⟨rfl,hB⟩;have HV6:=zh (HV5.out.trans (hB.mono HV5.out.size));clear hB))
       go_roundw
       case rel=>exact⟨q+1,W8,W9,R9,rr.r.s,rr.U,HLT.out,by go_num,HT9.out.rot.rot.below HV6.out,HIC.out⟩
       case measure=>have:=HLT.out;simp[intOf];omega
      ·obtain rfl:m2=q:=by omega
       have q1:¬(m2:Int) < (m2:Int):=by omega
       go_wp2_with (go_at_call 18;refine(HKN.out _).mono ?_;rintro e w7 ⟨rfl,hB⟩;have HB7:=zh hB;clear hB);go_ret
       exact⟨rfl,HTR.out.low.trans (HB7.out.mono HTR.out.low.size)⟩
end Go.Proofs.YtiiojpnckbglcaaGreat

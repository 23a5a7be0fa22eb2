import Derived.Test.YtnadmdadcpemnaaGreatMKQx
import Derived.Test.YtnadmdadcpemnaaGreatMZMx
import Derived.Test.YtnadmdadcpemnaaGreatCBx
import Derived.Test.YtnadmdadcpemnaaGreatMZOx
namespace Go.Proofs.YtnadmdadcpemnaaGreat
open Go.RowKit
set_option linter.unusedVariables false
set_option linter.unusedSimpArgs false
attribute [local go_sem ↓] Go.wp_at_zero Go.wp_at_succ
private theorem zh {p:Prop} (h:p):Go.RowKit.Hid p:=h
theorem cnts_none6 (w:World):Cnts w none 0 (fun _=>0) (fun _=>none) (fun _=>0) (fun _=>0) (fun _ _=>0):=
 ⟨fun h=>absurd rfl h,fun k h=>(by omega),fun k h=>(by omega),fun k h=>(by omega),fun k h=>(by omega),fun k h=>(by omega)⟩
def St6.arr (x:St6):Array Value:=Array.ofFn (n:=35) fun j=>x.cell j.1
theorem St6.arr_size (x:St6):x.arr.size=35:=Array.size_ofFn
theorem St6.arr_at (x:St6) {j:Nat} (hj:j < 35):x.arr[j]? = some (x.cell j):=by
 unfold St6.arr
 rw[Array.getElem?_ofFn,dif_pos hj]
theorem few6_le {m:Nat} {S:Nat→St6} (h:few6B m S=true):m≤40:=by
 unfold few6B at h
 rw[Bool.and_eq_true]at h
 exact of_decide_eq_true h.1
set_option maxRecDepth 100000 in
theorem rnew_bad (cf:Cfg) (w:World) (hcv:¬cf.Valid):Calls Tryz.prog 10 #[.agg cf.arr] w fun e w'=>e=.returned (.tuple #[.pointer none,.int .i64 2])∧Below w.heap.size w w':=by
 have HRS:=zh (fun W=>rresume_bad cf none 0 0 0 0 (fun _=>0) (fun _=>none) (fun _=>0) (fun _=>0) (fun _ _=>0) W (Int.le_refl _) ⟨Int.le_refl _,by decide⟩ (by decide) (Nat.zero_le _) (cnts_none6 W) (fun h=>hcv h.1))
 have HS:Hid ((Tryz.prog.info? 25).map (·.size)=some cf.arr.size):=zh (by rw[cf.arr_size];exact infoPd)
 obtain⟨Z,hZ⟩:∃Z,Z=cf.arr:=⟨_,rfl⟩
 rw[←hZ]at HS HRS ⊢
 have HU:=zh Tryz.underlying25
 have HB:Hid (Blk (w.alloc (.cells Z 25)) w.heap.size 25 Z):=zh (Blk.new _ _ _)
 have HBB:Hid (Below w.heap.size w (w.alloc (.cells Z 25))):=zh ((Below.refl _ w).alloc (Nat.le_refl _) _)
 clear hZ hcv
 go_enter Tryz.func10,Tryz.ntmps10
 go_wp2_with (first
  | (refine wpList_load_row rfl _ _ rfl w.heap.size rfl 25 Z (0,0) _ HB.out HU.out rfl HS.out ?_)
  | (go_at_call 16;refine(HRS.out _).mono ?_;rintro e w2 ⟨rfl,hN⟩;have HN:=zh hN;clear hN))
 go_ret2
 exact⟨rfl,HBB.out.trans (HN.out.mono HBB.out.size)⟩
set_option maxRecDepth 100000 in
set_option maxHeartbeats 6400000 in
theorem copies_walk (c:Cfg) (hck:c.Ok) (A1:Option Addr) (m1 c1:Nat) (S1:Nat→St6) (hm1:m1≤maxLen) (A2:Option Addr) (m2 c2:Nat) (S2:Nat→St6) (hm2:m2≤maxLen) (w:World) (h1:Steps6 w A1 m1 S1) (h2:Steps6 w A2 m2 S2) :
  Calls Tryz.prog 5 #[.agg c.arr,.slice A1 m1 c1,.slice A2 m2 c2] w fun e w'=>e=.returned (.bool true)∧Below w.heap.size w w':=by
 have HKN:=zh (fun V=>known_true V)
 have HPL:=zh (fun V=>plain46_ok c V)
 obtain⟨cf,hcf⟩:∃cf:Cfg,cf=c.noK:=⟨_,rfl⟩
 have hok:cf.Ok:=by rw[hcf];exact⟨hck.key,hck.code⟩
 have hcm:cf.cm=false:=by rw[hcf];rfl
 have HCF:=zh (And.intro hok hcm)
 have HS0:Hid ((Tryz.prog.info? 25).map (·.size)=some c.arr.size):=zh (by rw[c.arr_size];exact infoPd)
 have HS1:Hid ((Tryz.prog.info? 25).map (·.size)=some c.noK.arr.size):=zh (by rw[c.noK.arr_size];exact infoPd)
 have HSS:Hid (c.arr.size=c.noK.arr.size):=zh (by rw[c.arr_size,c.noK.arr_size])
 have HO1:=zh c.noK.arr_one
 have HF1:=zh (fun V (hb:Below w.heap.size w V)=>few46_ok A1 m1 c1 S1 V (h1.below hb) hm1)
 have HF2:=zh (fun V (hb:Below w.heap.size w V)=>few46_ok A2 m2 c2 S2 V (h2.below hb) hm2)
 have HNG:=zh (fun(hv:cf.Valid) V=>rnew_ok cf V hv)
 have HNB:=zh (fun(hv:¬cf.Valid) V=>rnew_bad cf V hv)
 have HSA:=zh h1
 have HSB:=zh h2
 have HUS:=zh Tryz.underlying57
 obtain⟨Z,hZ⟩:∃Z,Z=c.arr:=⟨_,rfl⟩
 obtain⟨Y,hY⟩:∃Y,Y=c.noK.arr:=⟨_,rfl⟩
 rw[←hZ]at HPL HS0 HSS ⊢
 rw[hcf,←hY]at HNG HNB
 rw[←hY]at HPL HS1 HSS HO1
 rw[←hcf]at HNG HNB
 have HU:=zh Tryz.underlying25
 unfold maxLen at hm1 hm2
 clear hZ hY hok hcm hck h1 h2 hcf
 go_enter Tryz.func5,Tryz.ntmps5
 go_upto_region 1 with (fail)
 obtain⟨g,hg⟩:∃g,g=w.heap.size:=⟨_,rfl⟩
 refine wp_let (fun W=>Blk W g 25 Z∧Below w.heap.size w W) ⟨by rw[hg];exact Blk.new _ _ _,(Below.refl _ w).alloc (Nat.le_refl _) _⟩ ?_
 rintro W1 ⟨b1,b2⟩
 have B1:=zh b1
 have B2:=zh b2
 have HG:=zh hg
 rw[←hg]
 clear b1 b2 hg
 go_upto_region 2 with (first
  | (refine wpList_load_row rfl _ _ rfl g rfl 25 Z (0,0) _ B1.out HU.out rfl HS0.out ?_)
  | (go_at_call 7;refine(HPL.out _).mono ?_;rintro e w2 ⟨rfl,hB⟩;have C1:=zh (B1.out.below hB B1.out.lt);have C2:=zh (B2.out.trans (hB.mono B2.out.size));clear hB)
  | (refine wpList_store_row rfl _ _ _ rfl g Y rfl rfl 25 _ C1.out HS1.out HSS.out HO1.out ?_))
 try simp only[Act.put]
 refine wp_let (fun W=>Blk W g 25 Y∧Below w.heap.size w W) ⟨setRow_heap _ _ _ Y 25 (0,0) C1.out,belowRow C2.out (by rw[HG.out];exact Nat.le_refl _) _⟩ ?_
 rintro W2 ⟨b1,b2⟩
 have D1:=zh b1
 have D2:=zh b2
 clear b1 b2 B1 B2 C1 C2
 by_cases hfew:¬(few6B m1 S1=true∧few6B m2 S2=true)
 ·cases hb1:few6B m1 S1
  ·rw[hb1]at HF1
   go_wp2_with (first
    | (go_at_call 20;with_reducible refine(HF1.out _ D2.out).mono ?_;rintro e w3 ⟨rfl,hB⟩;have E2:=zh (D2.out.trans (hB.mono D2.out.size));clear hB)
    | (go_at_call 9;refine(HKN.out _).mono ?_;rintro e w4 ⟨rfl,hB⟩;have E3:=zh (E2.out.trans (hB.mono E2.out.size));clear hB))
   go_ret
   exact⟨rfl,E3.out⟩
  ·have hb2:few6B m2 S2=false:=by
    cases h:few6B m2 S2
    ·rfl
    ·exact absurd ⟨hb1,h⟩ hfew
   rw[hb1]at HF1
   rw[hb2]at HF2
   go_wp2_with (first
    | (go_at_call 20;with_reducible refine(HF1.out _ D2.out).mono ?_;rintro e w3 ⟨rfl,hB⟩;have E2:=zh (D2.out.trans (hB.mono D2.out.size));clear hB)
    | (go_at_call 20;with_reducible refine(HF2.out _ E2.out).mono ?_;rintro e w3' ⟨rfl,hB⟩;have E4:=zh (E2.out.trans (hB.mono E2.out.size));clear hB)
    | (go_at_call 9;refine(HKN.out _).mono ?_;rintro e w4 ⟨rfl,hB⟩;have E3:=zh (E4.out.trans (hB.mono E4.out.size));clear hB))
   go_ret
   exact⟨rfl,E3.out⟩
 obtain⟨hb1,hb2⟩:=Classical.not_not.1 hfew
 have HM1:=zh (few6_le hb1)
 have HM2:=zh (few6_le hb2)
 rw[hb1]at HF1
 rw[hb2]at HF2
 clear hfew hb1 hb2
 go_upto_region 4 with (first
  | (go_at_call 20;with_reducible refine(HF1.out _ D2.out).mono ?_;rintro e w3 ⟨rfl,hB⟩;have E2:=zh (D2.out.trans (hB.mono D2.out.size));have E1:=zh (D1.out.below hB D1.out.lt);clear hB)
  | (go_at_call 20;with_reducible refine(HF2.out _ E2.out).mono ?_;rintro e w3' ⟨rfl,hB⟩;have F2:=zh (E2.out.trans (hB.mono E2.out.size));have F1:=zh (E1.out.below hB E1.out.lt);clear hB))
 by_cases hv:cf.Valid
 rotate_left
 ·have HNBV:=zh (HNB.out hv)
  clear hv
  go_wp2_with (first
   | (refine wpList_load_row rfl _ _ rfl g rfl 25 Y (0,0) _ F1.out HU.out rfl HS1.out ?_)
   | (go_at_call 10;refine(HNBV.out _).mono ?_;rintro e w5 ⟨rfl,hB⟩;have G2:=zh (F2.out.trans (hB.mono F2.out.size));clear hB)
   | (go_at_call 9;refine(HKN.out _).mono ?_;rintro e w6 ⟨rfl,hB⟩;have G3:=zh (G2.out.trans (hB.mono G2.out.size));clear hB))
  go_ret
  exact⟨rfl,G3.out⟩
 have HNGV:=zh (HNG.out hv)
 have HVV:=zh hv
 clear hv HNB HNG
 go_upto_region 9 with (first
  | (refine wpList_load_row rfl _ _ rfl g rfl 25 Y (0,0) _ F1.out HU.out rfl HS1.out ?_)
  | (go_at_call 10;refine(HNGV.out _).mono ?_;rintro e w5 ⟨v,rfl,g5,mS,mU,eb,X,rfl,hT,q1,q2,q3,q4,hB⟩;have HT:=zh hT;have G2:=zh (F2.out.trans (hB.mono F2.out.size));have HGS:=zh (And.intro q1 (And.intro q2 (And.intro q3 q4)));clear hT q1 q2 q3 q4 hB))
 obtain⟨W4,hW4⟩:∃W4:Nat→Prop,W4=fun k=>k=g5∨k=mS∨k=mU∨k=eb:=⟨_,rfl⟩
 rw[←hW4]at HT
 have hO0:O1 w w5 (fun _=>False) g5 W4 (rnewS cf X):=⟨mS,[],mU,eb,HT.out,fun k hk=>by
  have hf:=HGS.out
  have hsz:=F2.out.size
  rw[hW4]at hk
  rcases hk with h | h | h | h<;>omega⟩
 have HO0:=zh hO0
 have HI0:=zh (show RI 0 (rnewS cf X) [cf.key]from ⟨HCF.out.1,HVV.out,HCF.out.2,rfl,Nat.le_refl _,Int.le_refl _⟩)
 obtain⟨s0,hs0⟩:∃s0,s0=rnewS cf X:=⟨_,rfl⟩
 rw[←hs0]at HO0 HI0
 obtain⟨U0,hU0⟩:∃U0,U0=[cf.key]:=⟨_,rfl⟩
 rw[←hU0]at HI0
 clear hO0 hs0 hU0 hW4 HT HGS F1 F2 E1 E2 D1 D2
 have m140:(m1:Int)≤40:=by have:=HM1.out;omega
 have m240:(m2:Int)≤40:=by have:=HM2.out;omega
 have m10:(0:Int)≤(m1:Int):=by omega
 have m20:(0:Int)≤(m2:Int):=by omega
 clear hm1 hm2
 have HLD:=zh (show ∀(A:Option Addr) (m:Nat) (S:Nat→St6) (wr:World),Steps6 w A m S→Below w.heap.size w wr→∀i,i < m→∃lb lo,A=some ⟨lb,lo,none⟩∧wr.rangeAt lb (lo+i*35) (S i).arr.toList∧St6Ok w (S i)from fun A m S wr hst hlow i hlt=>by
  obtain⟨lb,lo,e,hlb,hlc⟩:=hst.at_ (by omega)
  refine⟨lb,lo,e,fun j v hv=>?_,hst.ok i hlt⟩
  have hj:j < 35:=by have:=(List.getElem?_eq_some_iff.1 hv).1;simpa[St6.arr_size]using this
  rw[hlow.cell (p:=⟨lb,lo+i*35+j,none⟩) hlb,hlc i hlt j hj,←hv,Array.getElem?_toList,St6.arr_at _ hj])
 go_wp2
 go_loopw [9] (fun v9 wr=>∃(i:Nat) (R:Nat→Prop) (s:RS) (U:List (Nat→Int)),i≤m1∧v9=.int .i64 i∧O1 w wr R g5 W4 s∧Below w.heap.size w wr∧RI i s U) (fun v9 _=>m1-(intOf v9).toNat)
 case atStart=>exact⟨0,fun _=>False,s0,U0,by omega,rfl,HO0.out,G2.out,HI0.out⟩
 case round=>
  clear HO0 HI0 G2
  obtain⟨i,R,s,U,hi,rfl,hO,hlow,hri⟩:=hrel
  have HO:=zh hO
  have HLO:=zh hlow
  have HRI:=zh hri
  have i0:(0:Int)≤(i:Int):=by omega
  clear hO hlow hri
  by_cases hlt:i < m1
  ·have i1:(i:Int) < (m1:Int):=by omega
   obtain⟨lb,lo,hAA,hrg,hsv⟩:=HLD.out A1 m1 S1 wr HSA.out HLO.out i hlt
   have HC:=zh (HO.out.call HLO.out HRI.out (by have:=HM1.out;omega) (S1 i) hsv (S1 i).arr (S1 i).arr_size (fun j hj=>(S1 i).arr_at hj))
   have HIC:=zh (HRI.out.call hsv)
   have HSZ:Hid ((Tryz.prog.info? 57).map (·.size)=some (S1 i).arr.toList.length):=zh (by rw[Array.length_toList,St6.arr_size];exact infoSt6)
   have HRG:=zh hrg
   obtain⟨XC,hXC⟩:∃XC,XC=(S1 i).arr:=⟨_,rfl⟩
   rw[←hXC]at HC HSZ HRG
   have HLT:=zh hlt
   subst hAA
   clear hXC hrg hsv hlt
   go_wp2_with (first
    | (refine wpList_load_mid rfl _ _ rfl lb (lo+i*35) rfl XC.toList _ HRG.out HUS.out rfl HSZ.out ?_)
    | (go_at_call 21;refine(HC.out).mono ?_;rintro e w6 ⟨R6',A6,c6,lo6,rfl,hO6,hm6,hp6,⟨ho,hl,_,_⟩,hR6,hK6⟩;have HO6:=zh ho;have HL6:=zh hl;clear hO6 hm6 hp6 ho hl hR6 hK6))
   go_roundw
   case rel=>exact⟨i+1,R6',_,_,HLT.out,by go_num,HO6.out,HL6.out,HIC.out⟩
   case measure=>have:=HLT.out;simp[intOf];omega
  ·obtain rfl:m1=i:=by omega
   have i1:¬(m1:Int) < (m1:Int):=by omega
   clear hlt hi
   have HCP:=zh (fun V (hb:Below wr.heap.size wr V) (ho:O1 w V R g5 W4 s)=>O1.copy ho (HLO.out.trans (hb.mono HLO.out.size)) HRI.out.cm)
   go_upto_region 16 with (first
    | (go_at_call 22;refine(HCP.out _ (Below.refl _ _) HO.out).mono ?_;rintro e w6 ⟨g6,W6,rfl,hc6,hc5,hW6,hB6⟩;have HC6:=zh hc6;have HC5:=zh hc5;have HW6:=zh hW6;have HB6:=zh hB6;clear hc6 hc5 hW6 hB6)
    | (go_at_call 22;refine(HCP.out _ HB6.out HC5.out).mono ?_;rintro e w7 ⟨g7,W7,rfl,hc7,hc5,hW7,hB7⟩;have HC7:=zh hc7;have HC57:=zh hc5;have HW7:=zh hW7;have HB7:=zh hB7;clear hc7 hc5 hW7 hB7))
   have hW4:∀k,W4 k→k < wr.heap.size:=by
    obtain⟨sb,l,ub,eb,h1,h2⟩:=HO.out
    exact h1.win
   have hl7:Below wr.heap.size wr w7:=HB6.out.trans (HB7.out.mono HB6.out.size)
   have hTr:Tr w w7 R g5 W4 s g6 W6 s g7 W7 s:=⟨HC57.out,HC6.out.below HB7.out,HC7.out,fun k h1 h2=>by have:=hW4 k h1;have:=(HW6.out k h2).1;omega,fun k h1 h2=>by have:=hW4 k h1;have:=(HW7.out k h2).1;have:=HB6.out.size;omega,fun k h1 h2=>by have:=(HW6.out k h1).2;have:=(HW7.out k h2).1;omega,HLO.out.trans (hl7.mono HLO.out.size)⟩
   have HTR:=zh hTr
   have HR4:=zh (HRI.out.more HM1.out)
   clear hW4 hl7 hTr HC57 HC6 HC7 HC5 HW6 HW7 HB6 HB7 HO HLO HRI HCP
   go_wp2
   go_loopw [12] (fun v12 wr=>∃(j:Nat) (R:Nat→Prop) (sv:RS) (Uv:List (Nat→Int)),j≤m2∧v12=.int .i64 j∧Tr w wr R g5 W4 s g6 W6 s g7 W7 sv∧RI (40+2*j) sv Uv) (fun v12 _=>m2-(intOf v12).toNat)
   case atStart=>exact⟨0,R,s,U,by omega,rfl,HTR.out,HR4.out⟩
   case round=>
    clear HTR
    obtain⟨j,R,sv,Uv,hj,rfl,hT,hri⟩:=hrel
    have HTR:=zh hT
    have HRI:=zh hri
    have j0:(0:Int)≤(j:Int):=by omega
    clear hT hri
    by_cases hlt:j < m2
    ·have j1:(j:Int) < (m2:Int):=by omega
     have hj40:j < 40:=by have:=HM2.out;omega
     obtain⟨lb,lo,hAA,hrg,hsv⟩:=HLD.out A2 m2 S2 wr HSB.out HTR.out.low j hlt
     have HC:=zh (HTR.out.rot.rot.call HRI.out (by omega) (S2 j) hsv (S2 j).arr (S2 j).arr_size (fun q hq=>(S2 j).arr_at hq))
     have HIC:=zh (HRI.out.call hsv)
     have HIC2:=zh (HIC.out.call hsv)
     have HC2:=zh (fun V R' (h:Tr w V R' g7 W7 (sv.call6 Uv (S2 j)).s g5 W4 s g6 W6 s)=>h.call HIC.out (by omega) (S2 j) hsv (S2 j).arr (S2 j).arr_size (fun q hq=>(S2 j).arr_at hq))
     have HRGA:=zh (show ∀V,Below w.heap.size w V→V.rangeAt lb (lo+j*35) (S2 j).arr.toList from fun V hb=>by
      obtain⟨lb',lo',e,h1,h2⟩:=HLD.out A2 m2 S2 V HSB.out hb j hlt
      rw[hAA]at e
      cases e
      exact h1)
     have HSZ:Hid ((Tryz.prog.info? 57).map (·.size)=some (S2 j).arr.toList.length):=zh (by rw[Array.length_toList,St6.arr_size];exact infoSt6)
     have HRG:=zh hrg
     obtain⟨XC,hXC⟩:∃XC,XC=(S2 j).arr:=⟨_,rfl⟩
     rw[←hXC]at HC HC2 HSZ HRG HRGA
     have HLT:=zh hlt
     have HAA:=zh hAA
     rw[hAA]
     clear hXC hrg hsv hlt hAA hj40
     go_upto_region 20 with (first
      | (refine wpList_load_mid rfl _ _ rfl lb (lo+j*35) rfl XC.toList _ HRG.out HUS.out rfl HSZ.out ?_)
      | (go_at_call 21;refine(HC.out).mono ?_;rintro e w8 ⟨R8,A8,c8,lo8,rfl,hO8,hm8,hp8,ht8,hR8,hK8⟩;have HT8:=zh ht8;clear hO8 hm8 hp8 ht8 hR8 hK8))
     have HRG8:=zh (HRGA.out _ HT8.out.low)
     have HC8:=zh (HC2.out _ _ HT8.out)
     go_wp2_with (first
      | (refine wpList_load_mid rfl _ _ rfl lb (lo+j*35) rfl XC.toList _ HRG8.out HUS.out rfl HSZ.out ?_)
      | (go_at_call 21;refine(HC8.out).mono ?_;rintro e w9 ⟨R9,A9,c9,lo9,rfl,hO9,hm9,hp9,ht9,hR9,hK9⟩;have HT9:=zh ht9;clear hO9 hm9 hp9 ht9 hR9 hK9))
     go_roundw
     case rel=>exact⟨j+1,R9,_,_,HLT.out,by go_num,HT9.out.rot,HIC2.out⟩
     case measure=>have:=HLT.out;simp[intOf];omega
    ·obtain rfl:m2=j:=by omega
     have j1:¬(m2:Int) < (m2:Int):=by omega
     have HTR0:=HTR
     clear hlt hj HTR HRI
     go_wp2
     go_loopw [13] (fun v13 wr=>∃(q:Nat) (R:Nat→Prop) (sr:RS) (Ur:List (Nat→Int)),q≤m2∧v13=.int .i64 q∧Tr w wr R g5 W4 sr g6 W6 sr g7 W7 sv∧RI (40+q) sr Ur) (fun v13 _=>m2-(intOf v13).toNat)
     case atStart=>exact⟨0,R,s,U,by omega,rfl,HTR0.out,HR4.out⟩
     case round=>
      clear HTR0 HR4
      obtain⟨q,R,sr,Ur,hq,rfl,hT,hri⟩:=hrel
      have HTR:=zh hT
      have HRI:=zh hri
      have q0:(0:Int)≤(q:Int):=by omega
      clear hT hri
      by_cases hlt:q < m2
      ·have q1:(q:Int) < (m2:Int):=by omega
       have hq40:q < 40:=by have:=HM2.out;omega
       obtain⟨lb,lo,hAA,hrg,hsv⟩:=HLD.out A2 m2 S2 wr HSB.out HTR.out.low q hlt
       have HC:=zh (HTR.out.call HRI.out (by omega) (S2 q) hsv (S2 q).arr (S2 q).arr_size (fun j hj=>(S2 q).arr_at hj))
       have HIC:=zh (HRI.out.call hsv)
       have HC2:=zh (fun V R' (h:Tr w V R' g6 W6 sr g7 W7 sv g5 W4 (sr.call6 Ur (S2 q)).s)=>h.call HRI.out (by omega) (S2 q) hsv (S2 q).arr (S2 q).arr_size (fun j hj=>(S2 q).arr_at hj))
       have HRGA:=zh (show ∀V,Below w.heap.size w V→V.rangeAt lb (lo+q*35) (S2 q).arr.toList from fun V hb=>by
        obtain⟨lb',lo',e,h1,h2⟩:=HLD.out A2 m2 S2 V HSB.out hb q hlt
        rw[hAA]at e
        cases e
        exact h1)
       have HSZ:Hid ((Tryz.prog.info? 57).map (·.size)=some (S2 q).arr.toList.length):=zh (by rw[Array.length_toList,St6.arr_size];exact infoSt6)
       have HRG:=zh hrg
       obtain⟨XC,hXC⟩:∃XC,XC=(S2 q).arr:=⟨_,rfl⟩
       obtain⟨rr,hrr⟩:∃rr,rr=sr.call6 Ur (S2 q):=⟨_,rfl⟩
       rw[←hXC]at HC HC2 HSZ HRG HRGA
       rw[←hrr]at HC HC2 HIC
       have HLT:=zh hlt
       have HAA:=zh hAA
       have HQ40:=zh hq40
       rw[hAA]
       clear hXC hrr hrg hsv hlt hAA hq40
       go_upto_region 25 with (first
        | (refine wpList_load_mid rfl _ _ rfl lb (lo+q*35) rfl XC.toList _ HRG.out HUS.out rfl HSZ.out ?_)
        | (go_at_call 21;refine(HC.out).mono ?_;rintro e w8 ⟨R8,A8,c8,lo8,rfl,hO8,hm8,hp8,ht8,hR8,hK8⟩;have HT8:=zh ht8;have HO8:=zh hO8;have HM8:=zh hm8;have HP8:=zh hp8;clear hO8 hm8 hp8 ht8 hR8 hK8))
       have HRG8:=zh (HRGA.out _ HT8.out.low)
       have HC8:=zh (HC2.out _ _ HT8.out.rot)
       go_upto_region 26 with (first
        | (refine wpList_load_mid rfl _ _ rfl lb (lo+q*35) rfl XC.toList _ HRG8.out HUS.out rfl HSZ.out ?_)
        | (go_at_call 21;refine(HC8.out).mono ?_;rintro e w9 ⟨R9,A9,c9,lo9,rfl,hO9,hm9,hp9,ht9,hR9,hK9⟩;have HT9:=zh ht9;have HO9:=zh hO9;have HM9:=zh hm9;have HP9:=zh hp9;have HR9:=zh hR9;have HK9:=zh hK9;clear hO9 hm9 hp9 ht9 hR9 hK9))
       have hd6:∀k,W6 k→¬R8 k:=by
        obtain⟨sb,l,ub,eb,h1,h2⟩:=HT8.out.b
        exact fun k hw hr=>h1.dis k hw hr
       have hO8:OutM w9 wr.heap.size A8 c8 lo8:=⟨HO8.out.1.keepF HK9.out (fun a ha hw=>by
        have h1:=HO8.out.2 a ha
        obtain⟨sb,l,ub,eb,h2,h3⟩:=HTR.out.b
        have:=h2.win _ hw
        omega),HO8.out.2⟩
       have hsame:=out_same hO8 HO9.out (HM8.out.trans HM9.out.symm) (fun x hx=>(HP8.out x hx).keep HK9.out hd6) HP9.out
       have hl89:lo9.length=lo8.length:=by
        have h:=congrArg List.length (HM8.out.trans HM9.out.symm)
        simpa using h.symm
       rw[hl89]
       obtain⟨nl,hnl⟩:∃nl,nl=lo8.length:=⟨_,rfl⟩
       have hnlm:lo8.length≤maxLen:=Nat.le_trans hO8.1.le hO8.1.cmax
       rw[←hnl]at hsame hnlm ⊢
       have HSM:=zh (samel_true A8 A9 nl c8 c9 w9 hnlm hsame)
       have HLF:=zh (show rr.s.L.length≤250 from by have:=HIC.out.few;have:=HQ40.out;omega)
       have HE1:=zh (fun V (hb:Below w9.heap.size w9 V)=>O1.export (HT9.out.rot.rot.a.below hb) HLF.out)
       have HE2:=zh (fun V (hb:Below w9.heap.size w9 V)=>O1.export (HT9.out.rot.rot.b.below hb) HLF.out)
       have HD1:=zh (fun V (hb:Below w9.heap.size w9 V)=>O1.dups (HT9.out.rot.rot.a.below hb))
       have HD2:=zh (fun V (hb:Below w9.heap.size w9 V)=>O1.dups (HT9.out.rot.rot.b.below hb))
       have HLN:=zh (show rr.s.L.length≤maxLen by have:=HLF.out;unfold maxLen;omega)
       have herr:(rr.err != rr.err)=false:=by simp
       have hdup:(rr.s.dup != rr.s.dup)=false:=by simp
       clear hd6 hO8 hsame hl89 hnl hnlm
       go_wp2_with (first
        | (go_at_call 14;refine(HSM.out).mono ?_;rintro e v1 ⟨rfl,hB⟩;have HV1:=zh hB;clear hB)
        | (go_at_call 19;(with_reducible refine(HE1.out _ HV1.out).mono ?_);rintro e v2 ⟨A2',c2',rfl,hc2',hC2,hB⟩;have HV2:=zh (HV1.out.trans (hB.mono HV1.out.size));have HCC2:=zh hC2;clear hc2' hC2 hB)
        | (go_at_call 19;(with_reducible refine(HE2.out _ HV2.out).mono ?_);rintro e v3 ⟨A3',c3',rfl,hc3',hC3,hB⟩;have HV3:=zh (HV2.out.trans (hB.mono HV2.out.size));have HCC3:=zh hC3;have HCC2':=zh (HCC2.out.below hB);clear hc3' hC3 hB)
        | (go_at_call 18;refine(same46_L _ _ _ _ _ _ _ rr.s.L v3 rfl HLN.out HCC2'.out HCC3.out).mono ?_;rintro e v4 ⟨rfl,hB⟩;have HV4:=zh (HV3.out.trans (hB.mono HV3.out.size));clear hB)
        | (go_at_call 17;with_reducible refine(HD1.out _ HV4.out).mono ?_;rintro e v5 ⟨rfl,hv5⟩;subst hv5)
        | (go_at_call 17;with_reducible refine(HD2.out _ HV4.out).mono ?_;rintro e v6 ⟨rfl,hv6⟩;subst hv6))
       go_roundw
       case rel=>exact⟨q+1,R9,rr.s,rr.U,HLT.out,by go_num,HT9.out.rot.rot.below HV4.out,HIC.out⟩
       case measure=>have:=HLT.out;simp[intOf];omega
      ·obtain rfl:m2=q:=by omega
       have q1:¬(m2:Int) < (m2:Int):=by omega
       go_wp2_with (go_at_call 9;refine(HKN.out _).mono ?_;rintro e w7 ⟨rfl,hB⟩;have HB7:=zh hB;clear hB)
       go_ret
       exact⟨rfl,HTR.out.low.trans (HB7.out.mono HTR.out.low.size)⟩
end Go.Proofs.YtnadmdadcpemnaaGreat

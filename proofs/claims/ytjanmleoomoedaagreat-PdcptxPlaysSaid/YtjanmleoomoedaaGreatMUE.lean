import Derived.Test.YtjanmleoomoedaaGreatMXT
namespace Go.Proofs.YtjanmleoomoedaaGreat
open Go.RowKit
set_option linter.unusedVariables false
attribute [local go_sem ↓] Go.wp_at_zero Go.wp_at_succ
private theorem zh {p:Prop} (h:p):Hid p:=h
def totF (a:Int) (f:Nat→Nat):Nat→Int
 | 0=>a
 | k+1=>wrap64 (totF a f k+(f k:Int))
def small45 (m mq:Nat) (pn qn:Nat→Nat):Bool:=decide (m≤40∧mq≤40∧totF (totF 0 pn m) qn mq≤9100)
set_option maxRecDepth 100000 in
set_option maxHeartbeats 3200000 in
theorem small45_ok (nx:Int) (us:Bool) (A A2:Option Addr) (m c1 mq c2:Nat) (ct:Nat→Int) (PA:Nat→Option Addr) (pn pc:Nat→Nat) (z:Nat→Nat→Int) (QA:Nat→Option Addr) (qn qc:Nat→Nat) (y:Nat→Nat→Int) (w:World) (hm:m≤maxLen) (hmq:mq≤maxLen) (h:Cnts w A m ct PA pn pc z) (hq:BRows w A2 mq QA qn qc y) :
  Calls Tryz.prog 6 #[.agg #[.int .u32 nx,.bool us,.slice A m c1,.slice A2 mq c2]] w fun e w'=>e=.returned (.bool (small45 m mq pn qn))∧Below w.heap.size w w':=by
 unfold maxLen at hm hmq
 have HC:=zh h
 have HQ:=zh hq
 clear h hq
 have hm':(m:Int)≤9223372036854775807:=by omega
 have hmq':(mq:Int)≤9223372036854775807:=by omega
 go_enter Tryz.func6,Tryz.ntmps6
 go_upto_region 1 with (fail)
 refine wp_let (fun V=>Blk V w.heap.size 30 #[.int .u32 nx,.bool us,.slice A m c1,.slice A2 mq c2]∧Below w.heap.size w V) ⟨Blk.new _ _ _,(Below.refl _ _).alloc (Nat.le_refl _) _⟩ ?_
 rintro w1 ⟨b1,b2⟩
 obtain⟨fb,hfb⟩:∃fb,fb=w.heap.size:=⟨_,rfl⟩
 rw[←hfb]at b1
 rw[show(Value.pointer (some ⟨w.heap.size,0,none⟩))=.pointer (some ⟨fb,0,none⟩) by rw[hfb]]
 have x2:=b1.cell 2
 have x3:=b1.cell 3
 simp at x2 x3
 have B1:=zh b2
 have HC1:=zh (HC.out.below b2)
 have HQ1:=zh (HQ.out.below b2)
 have HFB:=zh hfb
 clear b1 b2 hfb
 go_wp2
 go_loop [3,4] (fun v u=>∃k:Nat,k≤50∧k≤m∧u=.int .i64 k∧v=.int .i64 (totF 0 pn k)) (fun _ u=>51-(intOf u).toNat)
 case atStart=>exact⟨0,by omega,by omega,rfl,rfl⟩
 case round=>
  obtain⟨k,hk50,hk,rfl,rfl⟩:=hrel
  have HTT:=zh (show totF 0 pn (k+1)=wrap64 (totF 0 pn k+(pn k:Int))from rfl)
  obtain⟨t,ht⟩:∃t,t=totF 0 pn k:=⟨_,rfl⟩
  rw[←ht]
  rw[←ht]at HTT
  have HT0:=zh ht
  have k0:(0:Int)≤(k:Int):=by omega
  clear ht
  by_cases hlt:k < m∧k < 50
  ·obtain⟨hl1,hl2⟩:=hlt
   obtain⟨lb,lo,rfl,hlb,hlc⟩:=HC1.out.at_ (by omega)
   obtain⟨_,q1⟩:=hlc k hl1
   have k1:(k:Int) < (m:Int):=by omega
   have k2:(k:Int) < 50:=by omega
   clear hlc
   go_wp2
   go_round
   case rel=>exact⟨k+1,by omega,by omega,by go_num,by rw[HTT.out]⟩
   case measure=>simp[intOf];omega
  ·have HT1:=zh (show m≤40→t=totF 0 pn m from fun h=>by rw[HT0.out,show k=m by omega])
   have HKM:=zh hk
   by_cases hlm:k < m
   ·have k1:(k:Int) < (m:Int):=by omega
    have k2:¬(k:Int) < 50:=by omega
    clear hlt
    go_upto_region 6 with (fail)
    clear HTT HT0
    go_wp2
    go_loop [3,5] (fun v u=>∃k:Nat,k≤50∧k≤mq∧u=.int .i64 k∧v=.int .i64 (totF t qn k)) (fun _ u=>51-(intOf u).toNat)
    case atStart=>exact⟨0,by omega,by omega,rfl,rfl⟩
    case round=>
     obtain⟨j,hj50,hj,rfl,rfl⟩:=hrel
     have HTT:=zh (show totF t qn (j+1)=wrap64 (totF t qn j+(qn j:Int))from rfl)
     obtain⟨t2,ht2⟩:∃t2,t2=totF t qn j:=⟨_,rfl⟩
     rw[←ht2]
     rw[←ht2]at HTT
     have HT2:=zh ht2
     have j0:(0:Int)≤(j:Int):=by omega
     clear ht2
     by_cases hlt:j < mq∧j < 50
     ·obtain⟨hl1,hl2⟩:=hlt
      obtain⟨lb,lo,rfl,hlb,hlc⟩:=HQ1.out.at_ (by omega)
      have q1:=hlc j hl1
      have j1:(j:Int) < (mq:Int):=by omega
      have j2:(j:Int) < 50:=by omega
      clear hlc
      go_wp2
      go_round
      case rel=>exact⟨j+1,by omega,by omega,by go_num,by rw[HTT.out]⟩
      case measure=>simp[intOf];omega
     ·by_cases hjm:j < mq
      ·have j1:(j:Int) < (mq:Int):=by omega
       have j2:¬(j:Int) < 50:=by omega
       have g2:¬(mq:Int)≤40:=by omega
       have g1:¬(m:Int)≤40:=by omega
       go_wp2
       go_ret
       exact⟨ret_bool (by unfold small45;rw[eq_comm,decide_eq_false_iff_not];omega),B1.out⟩
      ·have hje:j=mq:=by omega
       have j1:¬(j:Int) < (mq:Int):=by omega
       have HJ:=zh hje
       clear hje hlt
       have g1:¬(m:Int)≤40:=by omega
       go_wp2
       go_ret
       exact⟨ret_bool (by unfold small45;rw[eq_comm,decide_eq_false_iff_not];omega),B1.out⟩
   ·have k1:¬(k:Int) < (m:Int):=by omega
    clear hlt
    go_upto_region 6 with (fail)
    clear HTT HT0
    go_wp2
    go_loop [3,5] (fun v u=>∃k:Nat,k≤50∧k≤mq∧u=.int .i64 k∧v=.int .i64 (totF t qn k)) (fun _ u=>51-(intOf u).toNat)
    case atStart=>exact⟨0,by omega,by omega,rfl,rfl⟩
    case round=>
     obtain⟨j,hj50,hj,rfl,rfl⟩:=hrel
     have HTT:=zh (show totF t qn (j+1)=wrap64 (totF t qn j+(qn j:Int))from rfl)
     obtain⟨t2,ht2⟩:∃t2,t2=totF t qn j:=⟨_,rfl⟩
     rw[←ht2]
     rw[←ht2]at HTT
     have HT2:=zh ht2
     have j0:(0:Int)≤(j:Int):=by omega
     clear ht2
     by_cases hlt:j < mq∧j < 50
     ·obtain⟨hl1,hl2⟩:=hlt
      obtain⟨lb,lo,rfl,hlb,hlc⟩:=HQ1.out.at_ (by omega)
      have q1:=hlc j hl1
      have j1:(j:Int) < (mq:Int):=by omega
      have j2:(j:Int) < 50:=by omega
      clear hlc
      go_wp2
      go_round
      case rel=>exact⟨j+1,by omega,by omega,by go_num,by rw[HTT.out]⟩
      case measure=>simp[intOf];omega
     ·by_cases hjm:j < mq
      ·have j1:(j:Int) < (mq:Int):=by omega
       have j2:¬(j:Int) < 50:=by omega
       have g2:¬(mq:Int)≤40:=by omega
       by_cases g1:(m:Int)≤40
       ·go_wp2
        go_ret
        exact⟨ret_bool (by unfold small45;rw[eq_comm,decide_eq_false_iff_not];omega),B1.out⟩
       ·go_wp2
        go_ret
        exact⟨ret_bool (by unfold small45;rw[eq_comm,decide_eq_false_iff_not];omega),B1.out⟩
      ·have hje:j=mq:=by omega
       have j1:¬(j:Int) < (mq:Int):=by omega
       have HJ:=zh hje
       clear hje hlt
       by_cases g1:(m:Int)≤40
       ·by_cases g2:(mq:Int)≤40
        ·go_wp2
         go_ret
         exact⟨ret_bool (by
          unfold small45
          rw[←HT1.out (by omega),←HJ.out,←HT2.out]
          exact decide_eq_decide.2 ⟨fun h=>⟨by omega,by have:=HJ.out;omega,h⟩,fun h=>h.2.2⟩),B1.out⟩
        ·go_wp2
         go_ret
         exact⟨ret_bool (by unfold small45;rw[eq_comm,decide_eq_false_iff_not];omega),B1.out⟩
       ·go_wp2
        go_ret
        exact⟨ret_bool (by unfold small45;rw[eq_comm,decide_eq_false_iff_not];omega),B1.out⟩
end Go.Proofs.YtjanmleoomoedaaGreat
namespace Go.Proofs.YtjanmleoomoedaaGreat
open Go.RowKit
set_option linter.unusedVariables false
set_option linter.unusedSimpArgs false
attribute [local go_sem ↓] Go.wp_at_zero Go.wp_at_succ
def SV.arr (x:SV):Array Value:=Array.ofFn (n:=36) fun j=>x.cell j.1
theorem SV.arr_size (x:SV):x.arr.size=36:=by simp[SV.arr]
theorem SV.arr_at (x:SV) {j:Nat} (hj:j < 36):x.arr[j]? = some (x.cell j):=by unfold SV.arr;simp[hj]
theorem infoStep:(Tryz.prog.info? 48).map (·.size)=some 36:=by kernel_rfl
theorem few_le {m most:Nat} {S:Nat→SV} (h:fewB m most S=true):m≤most:=by
 unfold fewB at h
 simp at h
 exact h.1
theorem small_le {m mq:Nat} {pn qn:Nat→Nat} (h:small45 m mq pn qn=true):m≤40∧mq≤40:=by
 unfold small45 at h
 have:=of_decide_eq_true h
 exact⟨this.1,this.2.1⟩
set_option maxRecDepth 100000 in
set_option maxHeartbeats 12800000 in
theorem plays_walk (c:Cfg) (hok:c.Ok) (nx:Int) (us:Bool) (A1 A2:Option Addr) (m1 c1 mq c2:Nat) (ct:Nat→Int) (PA:Nat→Option Addr) (pn pc:Nat→Nat) (z:Nat→Nat→Int) (QA:Nat→Option Addr) (qn qc:Nat→Nat) (y:Nat→Nat→Int) (A:Option Addr) (m cp:Nat) (S:Nat→SV) (w:World) (hnx:0≤nx∧nx < 4294967296) (hm1:m1≤maxLen) (hmq:mq≤maxLen) (hm:m≤maxLen)
  (hcn:Cnts w A1 m1 ct PA pn pc z) (hbr:BRows w A2 mq QA qn qc y) (hst:Steps w A m S) :
  Calls Tryz.prog 3 #[.agg c.arr,.agg #[.int .u32 nx,.bool us,.slice A1 m1 c1,.slice A2 mq c2],.slice A m cp] w fun e w'=>e=.returned (.bool true)∧Below w.heap.size w w':=by
 have HKN:=zh (fun V=>known45_true V)
 have HPL:=zh (fun V=>plain45_ok c V)
 have HRV:=zh (fun V=>rvalid45_ok c.noC V)
 have HDO:Hid c.noC.Ok:=zh (Cfg.noC_ok hok)
 have HCM:Hid (c.noC.cm=false):=zh rfl
 have HFW:=zh (fun V hV=>few45_ok A m cp 40 S (by decide) V hV hm)
 have HSM:=zh (fun V h1 h2=>small45_ok nx us A1 A2 m1 c1 mq c2 ct PA pn pc z QA qn qc y V hm1 hmq h1 h2)
 have HNO:=zh (fun hno V h1 h2=>tresume_no c.noC A1 A2 m1 c1 mq c2 nx us ct PA pn pc z QA qn qc y V hnx hm1 hmq h1 h2 hno)
 have HOK:=zh (fun hq1 hq2 hv hf V h1 h2=>tresume_ok c.noC A1 A2 m1 c1 mq c2 nx us ct PA pn pc z QA qn qc y V hnx hq1 hq2 h1 h2 hv hf)
 have HST:=zh (fun V r h1 h2 hr=>ustate_ok c.noC A1 A2 m1 c1 mq c2 nx us ct PA pn pc z QA qn qc y V hnx hm1 hmq h1 h2 r hr)
 have HUO:=zh (fun hq1 hq2 V B h1 h2 hB h3 h4=>uresume_ok c.noC A1 A2 m1 c1 mq c2 nx us ct PA pn pc z QA qn qc y V B hnx hq1 hq2 h1 h2 hB h3 h4)
 have HS0:Hid ((Tryz.prog.info? 25).map (·.size)=some c.arr.size):=zh (by rw[c.arr_size];exact infoPd)
 have HS1:Hid ((Tryz.prog.info? 25).map (·.size)=some c.noC.arr.size):=zh (by rw[c.noC.arr_size];exact infoPd)
 have HSS:Hid (c.arr.size=c.noC.arr.size):=zh (by rw[c.arr_size,c.noC.arr_size])
 have HO1:=zh c.noC.arr_one
 obtain⟨d,hd⟩:∃d,d=c.noC:=⟨_,rfl⟩
 obtain⟨Z,hZ⟩:∃Z,Z=c.arr:=⟨_,rfl⟩
 obtain⟨Y,hY⟩:∃Y,Y=c.noC.arr:=⟨_,rfl⟩
 rw[←hY]at HPL HRV HNO HOK HST HUO HS1 HSS HO1
 rw[←hd]at HRV HNO HOK HST HUO HDO HCM
 rw[←hZ]at HPL HS0 HSS ⊢
 have HU:=zh Tryz.underlying25
 have HCN:=zh hcn
 have HBR:=zh hbr
 have HSTP:=zh hst
 have HNX:=zh hnx
 unfold maxLen at hm hm1 hmq
 have m0:(0:Int)≤(m:Int):=by omega
 have n0:0≤nx:=hnx.1
 clear hZ hY hd hst hok hcn hbr hnx
 go_enter Tryz.func3,Tryz.ntmps3
 go_upto_region 1 with (fail)
 obtain⟨g,hg⟩:∃g,g=w.heap.size:=⟨_,rfl⟩
 have HG:=zh hg
 refine wp_let (fun W=>Blk W g 25 Z∧Blk W (g+1) 30 #[.int .u32 nx,.bool us,.slice A1 m1 c1,.slice A2 mq c2]∧Below w.heap.size w W) ⟨by rw[hg];exact(Blk.new _ _ _).alloc _,by rw[hg];exact blk_atZ _ _ _ _ (by simp),((Below.refl _ w).alloc (Nat.le_refl _) _).alloc (by simp) _⟩ ?_
 rintro W1 ⟨b1,bf,b2⟩
 have B1:=zh b1
 have BF1:=zh bf
 have B2:=zh b2
 rw[←hg]
 clear b1 b2 bf hg
 go_upto_region 2 with (first
  | (refine wpList_load_row rfl _ _ rfl g rfl 25 Z (0,0) _ B1.out HU.out rfl HS0.out ?_)
  | (go_at_call 4;refine(HPL.out _).mono ?_;rintro e w2 ⟨rfl,hB⟩;have C1:=zh (B1.out.below hB B1.out.lt);have CF:=zh (BF1.out.below hB BF1.out.lt);have C2:=zh (B2.out.trans (hB.mono B2.out.size));clear hB)
  | (refine wpList_store_row rfl _ _ _ rfl g Y rfl rfl 25 _ C1.out HS1.out HSS.out HO1.out ?_))
 try simp only[Act.put]
 refine wp_let (fun W=>Blk W g 25 Y∧Blk W (g+1) 30 #[.int .u32 nx,.bool us,.slice A1 m1 c1,.slice A2 mq c2]∧Below w.heap.size w W) ⟨setRow_heap _ _ _ Y 25 (0,0) C1.out,(setRow_other _ _ _ _ (by omega)).trans CF.out,belowRow C2.out (by rw[HG.out];exact Nat.le_refl _) _⟩ ?_
 rintro W2 ⟨b1,bf,b2⟩
 have D1:=zh b1
 have DF:=zh bf
 have D2:=zh b2
 clear b1 b2 bf B1 B2 BF1 C1 C2 CF
 have HFX:=zh (HFW.out W2 (HSTP.out.below D2.out))
 obtain⟨fb,hfb⟩:∃fb,fb=fewB m 40 S:=⟨_,rfl⟩
 have HFB:Hid (fb=true→m≤40):=zh (fun h=>few_le (hfb.symm.trans h))
 rw[←hfb]at HFX
 replace HFX:Hid (Calls Tryz.prog 5 #[.slice A m cp,.int .i64 40] W2 fun e w'=>e=.returned (.bool fb)∧Below W2.heap.size W2 w'):=HFX
 obtain⟨sm,hsm⟩:∃sm,sm=small45 m1 mq pn qn:=⟨_,rfl⟩
 have HSB:Hid (sm=true→m1≤40∧mq≤40):=zh (fun h=>small_le (hsm.symm.trans h))
 rw[←hsm]at HSM
 have z0:=DF.out.cell 0
 have z1:=DF.out.cell 1
 have z2:=DF.out.cell 2
 have z3:=DF.out.cell 3
 simp only[List.getElem?_toArray,List.getElem?_cons_zero,List.getElem?_cons_succ]at z0 z1 z2 z3
 clear hfb HFW hm hsm
 cases fb with
 | false=>
  go_wp2_with (first
   | (go_at_call 5;with_reducible refine(HFX.out).mono ?_;rintro e w3 ⟨rfl,hB⟩;have E3:=zh hB;clear hB)
   | (go_at_call 7;with_reducible refine(HKN.out _).mono ?_;rintro e w9 ⟨rfl,hB⟩;have E9:=zh hB;clear hB))
  go_ret
  exact⟨rfl,D2.out.trans ((E3.out.trans (E9.out.mono E3.out.size)).mono D2.out.size)⟩
 | true=>
 cases sm with
 | false=>
  go_wp2_with (first
   | (go_at_call 5;with_reducible refine(HFX.out).mono ?_;rintro e w3 ⟨rfl,hB⟩;have E3:=zh hB;have y0:=(DF.out.below hB DF.out.lt).cell 0;have y1:=(DF.out.below hB DF.out.lt).cell 1;have y2:=(DF.out.below hB DF.out.lt).cell 2;have y3:=(DF.out.below hB DF.out.lt).cell 3;simp only[List.getElem?_toArray,List.getElem?_cons_zero,List.getElem?_cons_succ]at y0 y1 y2 y3;clear hB)
   | (go_at_call 6;with_reducible refine(HSM.out _ (HCN.out.below (D2.out.trans (E3.out.mono D2.out.size))) (HBR.out.below (D2.out.trans (E3.out.mono D2.out.size)))).mono ?_;rintro e w4 ⟨rfl,hB⟩;have E4:=zh (E3.out.trans (hB.mono E3.out.size));clear hB)
   | (go_at_call 7;with_reducible refine(HKN.out _).mono ?_;rintro e w9 ⟨rfl,hB⟩;have E9:=zh hB;clear hB))
  go_ret
  exact⟨rfl,D2.out.trans ((E4.out.trans (E9.out.mono E4.out.size)).mono D2.out.size)⟩
 | true=>
  have HM40:Hid (m≤40):=zh (HFB.out rfl)
  have HM1:=zh (HSB.out rfl)
  go_upto_region 4 with (first
   | (go_at_call 5;with_reducible refine(HFX.out).mono ?_;rintro e w3 ⟨rfl,hB⟩;have E3:=zh hB;have y0:=(DF.out.below hB DF.out.lt).cell 0;have y1:=(DF.out.below hB DF.out.lt).cell 1;have y2:=(DF.out.below hB DF.out.lt).cell 2;have y3:=(DF.out.below hB DF.out.lt).cell 3;simp only[List.getElem?_toArray,List.getElem?_cons_zero,List.getElem?_cons_succ]at y0 y1 y2 y3;clear hB)
   | (go_at_call 6;with_reducible refine(HSM.out _ (HCN.out.below (D2.out.trans (E3.out.mono D2.out.size))) (HBR.out.below (D2.out.trans (E3.out.mono D2.out.size)))).mono ?_;rintro e w4 ⟨rfl,hB⟩;have E4:=zh (E3.out.trans (hB.mono E3.out.size));clear hB))
  have F1:=zh (D1.out.below E4.out D1.out.lt)
  have FF:=zh (DF.out.below E4.out DF.out.lt)
  have F2:=zh (D2.out.trans (E4.out.mono D2.out.size))
  clear z0 z1 z2 z3 y0 y1 y2 y3
  have z0:=FF.out.cell 0
  have z1:=FF.out.cell 1
  have z2:=FF.out.cell 2
  have z3:=FF.out.cell 3
  simp only[List.getElem?_toArray,List.getElem?_cons_zero,List.getElem?_cons_succ]at z0 z1 z2 z3
  have HC4:=zh (HCN.out.below F2.out)
  have HB4:=zh (HBR.out.below F2.out)
  by_cases hv:d.Valid
  rotate_left
  ·rw[decide_eq_false hv]at HRV
   have HX:=zh (HNO.out (fun h=>hv h.1))
   clear hv
   go_wp2_with (first
    | (refine wpList_load_row rfl _ _ rfl g rfl 25 Y (0,0) _ F1.out HU.out rfl HS1.out ?_)
    | (go_at_call 8;with_reducible refine(HX.out _ HC4.out HB4.out).mono ?_;rintro e w10 ⟨rfl,hB⟩;have E5:=zh hB;have F1:=zh (F1.out.below hB F1.out.lt);clear hB)
    | (go_at_call 9;with_reducible refine(HRV.out _).mono ?_;rintro e w8 ⟨rfl,hB⟩;have E8:=zh hB;clear hB)
    | (go_at_call 7;with_reducible refine(HKN.out _).mono ?_;rintro e w9 ⟨rfl,hB⟩;have E9:=zh hB;clear hB))
   go_ret
   exact⟨rfl,F2.out.trans ((E5.out.trans ((E8.out.trans (E9.out.mono E8.out.size)).mono E5.out.size)).mono F2.out.size)⟩
  rw[decide_eq_true hv]at HRV
  by_cases hf:FOk d.ac nx us m1 ct pn mq qn
  rotate_left
  ·have HX:=zh (HNO.out (fun h=>hf h.2))
   have HSF:=zh (fun V h1 h2=>HST.out V false h1 h2 ⟨fun h=>(by cases h),fun h=>absurd h hf⟩)
   clear hv hf
   go_wp2_with (first
    | (refine wpList_load_row rfl _ _ rfl g rfl 25 Y (0,0) _ F1.out HU.out rfl HS1.out ?_)
    | (refine wpList_load_rowG (by rfl) _ _ rfl g rfl 25 Y (0,0) _ F1.out HU.out rfl HS1.out ?_)
    | (go_at_call 8;with_reducible refine(HX.out _ HC4.out HB4.out).mono ?_;rintro e w10 ⟨rfl,hB⟩;have E5:=zh hB;have F1:=zh (F1.out.below hB F1.out.lt);have FF:=zh (FF.out.below hB FF.out.lt);clear hB)
    | (go_at_call 9;with_reducible refine(HRV.out _).mono ?_;rintro e w8 ⟨rfl,hB⟩;have E8:=zh (E5.out.trans (hB.mono E5.out.size));have F1:=zh (F1.out.below hB F1.out.lt);have y0:=(FF.out.below hB FF.out.lt).cell 0;have y1:=(FF.out.below hB FF.out.lt).cell 1;have y2:=(FF.out.below hB FF.out.lt).cell 2;have y3:=(FF.out.below hB FF.out.lt).cell 3;simp only[List.getElem?_toArray,List.getElem?_cons_zero,List.getElem?_cons_succ]at y0 y1 y2 y3;clear hB)
    | (go_at_call 10;with_reducible refine(HSF.out _ (HC4.out.below E8.out) (HB4.out.below E8.out)).mono ?_;rintro e w7 ⟨rfl,hB⟩;have E7:=zh (E8.out.trans (hB.mono E8.out.size));clear hB)
    | (go_at_call 7;with_reducible refine(HKN.out _).mono ?_;rintro e w9 ⟨rfl,hB⟩;have E9:=zh hB;clear hB))
   go_ret
   exact⟨rfl,F2.out.trans ((E7.out.trans (E9.out.mono E7.out.size)).mono F2.out.size)⟩
  have HX:=zh (HOK.out (by have:=HM1.out;omega) (by have:=HM1.out;omega) hv hf)
  have HSF:=zh (fun V h1 h2=>HST.out V true h1 h2 ⟨fun _=>hf,fun _=>rfl⟩)
  have HUX:=zh (HUO.out (by have:=HM1.out;omega) (by have:=HM1.out;omega))
  have HFIT:=zh (show(∀k,k < m1→1≤pn k∧pn k≤9000)∧∀k,k < mq→1≤qn k∧qn k≤9000 from ⟨fun k hk=>(fits_iff _).1 (hf.elem k hk).1,fun k hk=>(fits_iff _).1 (hf.queue k hk)⟩)
  have HPI:=zh (PI.res HDO.out hv HCM.out HNX.out hf (fun k hk=>(HCN.out.rng k hk).1) HCN.out.byte HBR.out.byte (i:=40) HM1.out)
  clear hv hf
  have HCP:=zh (show(∀k,k < m1→CPk w4 w4.heap.size (PA k) (pn k) (pc k) (z k))∧∀k,k < mq→CPk w4 w4.heap.size (QA k) (qn k) (qc k) (y k)from ⟨fun k hk=>⟨(HFIT.out.1 k hk).1,(HFIT.out.1 k hk).2,HC4.out.cap k hk,HC4.out.byte k hk,HC4.out.row k hk⟩,fun k hk=>⟨(HFIT.out.2 k hk).1,(HFIT.out.2 k hk).2,HB4.out.cap k hk,HB4.out.byte k hk,HB4.out.row k hk⟩⟩)
  go_upto_region 7 with (first
   | (refine wpList_load_row rfl _ _ rfl g rfl 25 Y (0,0) _ F1.out HU.out rfl HS1.out ?_)
   | (refine wpList_load_rowG (by rfl) _ _ rfl g rfl 25 Y (0,0) _ F1.out HU.out rfl HS1.out ?_)
   | (go_at_call 8;with_reducible refine(HX.out _ HC4.out HB4.out).mono ?_;rintro e w10 ⟨g2,W,R,rfl,hT,hW,hR,hB⟩;have E5:=zh hB;have HT5:=zh hT;have HW5:=zh hW;have F1:=zh (F1.out.below hB F1.out.lt);have FF:=zh (FF.out.below hB FF.out.lt);clear hB hT hW hR)
   | (go_at_call 9;with_reducible refine(HRV.out _).mono ?_;rintro e w8 ⟨rfl,hB⟩;have E6:=zh hB;have E8:=zh (E5.out.trans (hB.mono E5.out.size));have F1:=zh (F1.out.below hB F1.out.lt);have FF:=zh (FF.out.below hB FF.out.lt);have y0:=FF.out.cell 0;have y1:=FF.out.cell 1;have y2:=FF.out.cell 2;have y3:=FF.out.cell 3;simp only[List.getElem?_toArray,List.getElem?_cons_zero,List.getElem?_cons_succ]at y0 y1 y2 y3;clear hB)
   | (go_at_call 10;with_reducible refine(HSF.out _ (HC4.out.below E8.out) (HB4.out.below E8.out)).mono ?_;rintro e w7 ⟨rfl,hB⟩;have E6:=zh (E6.out.trans (hB.mono E6.out.size));have E7:=zh (E8.out.trans (hB.mono E8.out.size));have F1:=zh (F1.out.below hB F1.out.lt);have FF:=zh (FF.out.below hB FF.out.lt);clear hB))
  clear z0 z1 z2 z3 y0 y1 y2 y3
  have z0:=FF.out.cell 0
  have z1:=FF.out.cell 1
  have z2:=FF.out.cell 2
  have z3:=FF.out.cell 3
  simp only[List.getElem?_toArray,List.getElem?_cons_zero,List.getElem?_cons_succ]at z0 z1 z2 z3
  have hkc:∀k,k < w4.heap.size→w7.heap[k]? = w4.heap[k]?:=fun k hk=>E7.out.block k hk
  have HUY:=zh (HUX.out w7 w4.heap.size (HC4.out.below E7.out) (HB4.out.below E7.out) E7.out.size (fun k hk=>(HCP.out.1 k hk).keepN hkc) (fun k hk=>(HCP.out.2 k hk).keepN hkc))
  clear hkc
  go_upto_region 8 with (first
   | (refine wpList_load_row rfl _ _ rfl g rfl 25 Y (0,0) _ F1.out HU.out rfl HS1.out ?_)
   | (go_at_call 11;with_reducible refine(HUY.out).mono ?_;rintro e w11 ⟨rb,rfl,A9,c9,l9,A10,c10,l10,uA,uc,ks,hM,hB,hu⟩;have HP11:=zh (PW.both (Below.refl _ _) HT5.out HW5.out E5.out E6.out hM hB hu);clear hM hB hu))
  clear z0 z1 z2 z3
  obtain⟨s0,hs0⟩:∃s0,s0=resS d (nextOf nx us) m1 ct pn z mq qn y:=⟨_,rfl⟩
  rw[←hs0]at HP11 HPI
  clear hs0
  have hm40:=HM40.out
  have m40:(m:Int)≤40:=by omega
  have HKL:=zh (show([d.key]:List (Nat→Int)).length≤40 by simp)
  clear hm40
  go_wp2
  go_loopw [7,9,10] (fun v7 v9 v10 wr=>∃(i:Nat) (g h:Nat) (s:TS) (U:List (Nat→Int)),i≤m∧v10=.int .i64 i∧v7=.pointer (some ⟨g,0,none⟩)∧v9=.pointer (some ⟨h,0,none⟩)∧PW w4 wr g h s s (fun _=>False)∧PI s U (40+i)∧U.length≤40+i) (fun _ _ v10 _=>m+1-(intOf v10).toNat)
  case atStart=>exact⟨0,g2,rb,s0,[d.key],by omega,rfl,rfl,rfl,HP11.out,HPI.out,HKL.out⟩
  case round=>
   obtain⟨i,g3,h3,s,U,hi,rfl,rfl,rfl,hp,hpi,hul⟩:=hrel
   have HP:=zh hp
   have HI:=zh hpi
   have HUL:=zh hul
   have i0:(0:Int)≤(i:Int):=by omega
   have hi9:i≤40:=by omega
   clear hp hpi hul
   by_cases hlt:i < m
   ·have i1:(i:Int) < (m:Int):=by omega
    have HSW:=HSTP.out.below F2.out
    have HSR:=HSW.below (w':=w4) (Below.refl _ _)
    obtain⟨lb,lo,rfl,hlb,hlc⟩:=HSW.at_ (by omega)
    have HSV:=zh (HSW.ok i hlt)
    have hlow:=HP.out.low
    have HRG:=zh (show wr.rangeAt lb (lo+i*36) (S i).arr.toList from fun j v hv=>by
     have hj:j < 36:=by have:=(List.getElem?_eq_some_iff.1 hv).1;simpa[SV.arr_size]using this
     rw[hlow.cell (p:=⟨lb,lo+i*36+j,none⟩) hlb,hlc i hlt j hj,←hv,Array.getElem?_toList,SV.arr_at _ hj])
    have HPLAY:=zh (play_ok HP.out HI.out (by omega) HUL.out (S i) HSV.out (S i).arr (by rw[SV.arr_size];exact infoStep) (fun j hj=>SV.arr_at _ hj))
    have HSA:Hid ((Tryz.prog.info? 48).map (·.size)=some (S i).arr.toList.length):=zh (by rw[Array.length_toList,SV.arr_size];exact infoStep)
    have HUS:=zh Tryz.underlying48
    obtain⟨XC,hXC⟩:∃XC,XC=(S i).arr:=⟨_,rfl⟩
    rw[←hXC]at HRG HPLAY HSA
    clear HSW HSR hlow hlb hlc hXC
    go_upto_region 12 with (first
     | (refine wpList_load_mid rfl _ _ rfl lb (lo+i*36) rfl XC.toList _ HRG.out HUS.out rfl HSA.out ?_)
     | (go_at_call 12;refine(HPLAY.out).mono ?_;rintro e w12 ⟨g5,h5,rfl,s5,U5,hp5,hi5,hu5⟩;have HP5:=zh hp5;have HI5:=zh hi5;have HU5:=zh hu5;clear hp5 hi5 hu5))
    have HLK:=zh (looks_ok HP5.out HI5.out (by omega))
    go_wp2_with (go_at_call 13;refine(HLK.out).mono ?_;rintro e w13 ⟨rfl,hB⟩;have HB13:=zh hB;clear hB)
    go_roundw
    case rel=>exact⟨i+1,g5,h5,s5,U5,by omega,by go_num,rfl,rfl,HP5.out.below HB13.out,HI5.out,HU5.out⟩
    case measure=>simp[intOf];omega
   ·obtain rfl:m=i:=by omega
    have i1:¬(m:Int) < (m:Int):=by omega
    have HLK:=zh (looks_ok HP.out HI.out (by omega))
    have HLOW:=zh (F2.out.trans (HP.out.low.mono F2.out.size))
    clear hlt hi hi9
    go_wp2_with (first
     | (go_at_call 13;refine(HLK.out).mono ?_;rintro e w13 ⟨rfl,hB⟩;have HB13:=zh hB;clear hB)
     | (go_at_call 7;refine(HKN.out _).mono ?_;rintro e w14 ⟨rfl,hB⟩;have HB14:=zh hB;clear hB))
    go_ret
    exact⟨rfl,HLOW.out.trans ((HB13.out.trans (HB14.out.mono HB13.out.size)).mono HLOW.out.size)⟩
end Go.Proofs.YtjanmleoomoedaaGreat

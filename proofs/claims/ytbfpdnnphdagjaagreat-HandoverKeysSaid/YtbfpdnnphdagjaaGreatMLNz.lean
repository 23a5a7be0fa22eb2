import Derived.Test.YtbfpdnnphdagjaaGreatML7z
import Derived.Test.YtbfpdnnphdagjaaGreatMVz
import Derived.Test.YtbfpdnnphdagjaaGreatMZOz
import Derived.Deep.DeepCutAuto
import Derived.Deep.CutRange
import Derived.Deep.CutBlock
import Derived.Test.YtbfpdnnphdagjaaGreatB1z
set_option maxRecDepth 100000
set_option maxHeartbeats 6400000
set_option linter.unusedVariables false
set_option linter.unusedSimpArgs false
namespace Go.Proofs.YtbfpdnnphdagjaaGreat
open Go.RowKit
attribute [local go_sem ↓] Go.wp_at_zero Go.wp_at_succ
def aq.rz (c:aq):aq:={ c with ro:=0,ds:=0 }
theorem vw (c:aq):(c.arr.setIfInBounds 38 (.int .i64 0)).setIfInBounds 37 (.int .i64 0)=c.rz.arr:=by
 rw[ee c { c with ro:=0 } 38 (by decide) (.int .i64 0) rfl (fun j h9 hj=>by
   have h37:j < 37\/j=37:=by omega
   unfold aq.cell;rcases h37 with h37 | rfl
   ·by_cases e0:j=36
    ·subst e0;rfl
    ·by_cases e1:j=35
     ·subst e1;rfl
     ·by_cases e2:j=34
      ·subst e2;rfl
      ·have e3:j < 34:=by omega
       simp[e3]
   ·rfl),
  ee { c with ro:=0 } c.rz 37 (by decide) (.int .i64 0) rfl (fun j h9 hj=>by unfold aq.cell aq.rz;simp[hj])]
theorem rF (cf:aq) (up wh:Int) (hup:up < 0\/12 < up) (w:World):Calls Tryz.prog 3 #[.agg cf.arr,.int .i64 up,.int .i64 wh] w fun e w'=>e=.returned (.bool true)/\Below w.heap.size w w':=by
 obtain⟨CA,hCA⟩:=ah cf.arr
 rw[<-hCA];clear hCA;rcases hup with h | h
 rotate_left
 focus
  have h0:¬up < 0:=by omega
 all_goals
  go_enter Tryz.func3,Tryz.ntmps3;go_upto_region 1 with (fail)
  refine ai (fun V=>Below w.heap.size w V) ((Below.refl _ w).alloc ay _) ?_;intro V bx;have BX:=zh bx;clear bx;go_wp2_with (go_at_call 5;refine(fH _).mono ?_;rintro e w1 ⟨rfl,hb⟩;have HBE:=zh (BX.out.trans (hb.mono BX.out.size));clear hb);go_ret
  exact⟨rfl,HBE.out⟩
theorem ua (cf:aq) (up wh:Int) (hup:0<=up/\up<=12) (hv:¬cf.lnk.Valid) (w:World):Calls Tryz.prog 3 #[.agg cf.arr,.int .i64 up,.int .i64 wh] w fun e w'=>e=.returned (.bool true)/\Below w.heap.size w w':=by
 have HBN:=zh (fun V=>sf cf hv V);have HVL:=zh (fun V=>fd cf.rz V);have hv2:¬cf.rz.Valid:=hv;rw[decide_eq_false hv2]at HVL;have HLK:=zh (vw cf);have HAZ:Hid (cf.arr.size=39):=zh cf.arr_size;have HSA:Hid ((Tryz.prog.info? 25).map (·.size)=some cf.arr.toList.length):=zh (by rw[Array.length_toList,aq.arr_size];exact aO);have HSB:Hid ((Tryz.prog.info? 25).map (·.size)=some cf.rz.arr.toList.length):=zh (by rw[Array.length_toList,aq.arr_size];exact aO);have HUC:=zh Tryz.underlying25;obtain⟨CA,hCA⟩:=ah cf.arr
 obtain⟨CB,hCB⟩:=ah cf.rz.arr
 rw[<-hCA]at HLK HAZ HBN HSA ⊢;rw[<-hCB]at HLK HVL HSB;have h0:¬up < 0:=by omega
 have h1:¬12 < up:=by omega
 clear hCA hCB hv hv2 hup;go_enter Tryz.func3,Tryz.ntmps3;go_upto_region 1 with (fail)
 obtain⟨kb,hkb⟩:=ah w.heap.size
 have HKB:=zh hkb;refine ai (fun V=>ae V kb 25 CA/\Below w.heap.size w V) ⟨by rw[hkb];exact ae.new _ _ _,(Below.refl _ w).alloc ay _⟩ ?_;rintro V ⟨b0,bx⟩;have BX:=zh bx;clear bx;rw[<-hkb];have HB0:=zh b0;have R0:=zh (show V.rangeAt kb 0 CA.toList from fun j y hy=>by rw[b0.cell,Nat.zero_add,<-hy,Array.getElem?_toList]);clear b0 hkb;go_upto_region 5 with (first
  | (refine wpList_load_mid rfl 25 _ rfl kb 0 rfl CA.toList _ R0.out HUC.out rfl HSA.out ?_)
  | (go_at_call 6;refine(HBN.out _).mono ?_;rintro e w1 ⟨rfl,hb⟩;have HB1:=zh (HB0.out.below hb HB0.out.lt);have BX1:=zh (BX.out.trans (hb.mono BX.out.size));clear hb))
 have HN:=zh (show ∀j,j < 39->∃v,w1.cell? ⟨kb,j,none⟩=some v from fun j hj=>by
  rw[HB1.out.cell]
  exact⟨_,Array.getElem?_eq_getElem (by rw[HAZ.out];exact hj)⟩)
 obtain⟨v7,c7⟩:=HN.out 37 (by decide);obtain⟨v8,c8⟩:=HN.out 38 (by decide);have f7:=HB1.out.frozen 37;have f8:=HB1.out.frozen 38;go_upto_region 6 with (fail)
 refine ai (fun V2=>ae V2 kb 25 CB/\Below w.heap.size w V2) ⟨by have:=(HB1.out.set_ 38 (.int .i64 0)).set_ 37 (.int .i64 0);rw[HLK.out]at this;exact this,(BX1.out.setCell (by show w.heap.size<=kb;have:=HKB.out;omega) _).setCell (by show w.heap.size<=kb;have:=HKB.out;omega) _⟩ ?_;rintro V2 ⟨b0,bx⟩;have BX2:=zh bx;clear bx;have R2:=zh (show V2.rangeAt kb 0 CB.toList from fun j y hy=>by rw[b0.cell,Nat.zero_add,<-hy,Array.getElem?_toList]);clear b0 c7 c8 f7 f8 HN;go_wp2_with (first
  | (refine wpList_load_mid rfl 25 _ rfl kb 0 rfl CB.toList _ R2.out HUC.out rfl HSB.out ?_)
  | (go_at_call 7;refine(HVL.out _).mono ?_;rintro e w3 ⟨rfl,hb⟩;have BX3:=zh (BX2.out.trans (hb.mono BX2.out.size));clear hb)
  | (go_at_call 5;refine(fH _).mono ?_;rintro e w4 ⟨rfl,hb⟩;have BX4:=zh (BX3.out.trans (hb.mono BX3.out.size));clear hb))
 go_ret
 exact⟨rfl,BX4.out⟩
def tO:Nat->Nat:=fun _=>1
def zK:Nat->Nat->Int:=fun k _=>((k % 256:Nat):Int)
theorem wO:tM tO zK:=⟨fun k=>by unfold tO;omega,fun k j=>by unfold zK;omega⟩
theorem ao.setRowB {w0 w:World} {n:Nat} {A:Nat->Ag} (h:ao w0 w n A) {i:Nat} (hi:i < n) {b:Nat} {t:TypeId} {cs:Array Value} (hA:A i=bg b t cs) (ds:Array Value):ao w0 (w.setRow b ds) n (bk A i (bg b t ds)):=by
 obtain⟨O,h1,h2,_,h3⟩:=h.at_ hi;rw[hA]at h1;obtain⟨t1,t2⟩:=h1
 exact h3 _ (fun k=>k=b) _ ⟨t1.setRow,fun k=>Iff.rfl⟩ ((aa.setRow (F:=fun k=>k=b) (aa.of_below (Below.refl _ w)) rfl ds).mono (fun k hk=>(t2 k).2 hk)) (fun k hk=>.inl ((t2 k).2 hk))
theorem ox {w0 w:World} {b M:Nat} {L:eY} (h:Lk w0 w b L) {K i:Nat} (hd:bU tO zK K L.x0 M) (hi:L.x0.N+L.x0.q=i) (h12:i<=12) :
  Calls Tryz.prog 8 #[.pointer (some ⟨L.t0,0,none⟩),.int .i64 0,.slice (some ⟨w.heap.size,0,none⟩) 1 1] (w.alloc (.cells #[.int .u8 (i:Int)] 5)) fun e w'=>∃s',e=.returned (.int .i64 0)/\Lk w0 w' b { L with x0:={ L.x0 with q:=L.x0.q+1,ts:=s' } }/\bU tO zK K { L.x0 with q:=L.x0.q+1,ts:=s' } M:=by
 obtain⟨s',h1,h2⟩:=hd.submit wO;rw[hi]at h1;have h3:=ao.newRow h #[.int .u8 (i:Int)] 5 1 (fun _=>i % 256) (fun j hj=>by
  have:j=0:=by omega
  subst this;have e:i % 256=i:=by omega
  rw[e];rfl)
 have hql:=hd.t.qlen;refine(ao.submitW (i:=0) (j:=7) h3 (by decide) (by decide) (by decide) rfl hd.t.fine (by rw[hd.t.C];exact hd.cm) (by rw[hql];omega) _ 1 1 (fun _=>i % 256) rfl (fun j hj=>by omega) (by decide)).mono fun e w' ⟨he,hF⟩=>⟨s',?_,?_,h2⟩
 ·rw[he];have e:(L.x0.ts.submit 0 1 (fun j=>((i % 256:Nat):Int)))=(0,s'):=h1;rw[e]
 ·have e:(L.x0.ts.submit 0 1 (fun j=>((i % 256:Nat):Int)))=(0,s'):=h1;rw[e]at hF
  exact ao.to7 hF (by decide) _
theorem tj {w0 w:World} {b M:Nat} {L:eY} (h:Lk w0 w b L) {K:Nat} (hd:bU tO zK K L.x0 M) (hN:L.x0.N+L.x0.q<=99) (hM:M<=1000000) :
  Calls Tryz.prog 9 #[.pointer (some ⟨b,0,none⟩),.int .i64 0,.slice (some ⟨w.heap.size,0,none⟩) 3 3] (w.alloc (.cells #[.int .u8 1,.int .u8 0,.int .u8 1] 5)) fun e w'=>∃x' o' c',e=.returned (.bool true)/\Lk w0 w' b { L with x0:=x',o0:=o',co0:=c' }/\bU tO zK K x' (M+200)/\x'.N=L.x0.N+L.x0.q:=by
 have h3:=ao.newRow h #[.int .u8 1,.int .u8 0,.int .u8 1] 5 3 (fun j=>if j=1 then 0 else 1) (fun j hj=>by
  rcases (by omega:j=0\/j=1\/j=2)with rfl | rfl | rfl<;>rfl)
 refine(sQ (X:=vM (some ⟨w.heap.size,0,none⟩) 3 (fun j=>if j=1 then 0 else 1)) h3 wO hd hN hM (some ⟨w.heap.size,0,none⟩) 3 3 (fun j=>(((if j=1 then 0 else 1:Nat):Nat):Int)) (by decide) (rl _ _ _ _) (fun j hj=>by split<;>omega)).mono fun e w' ⟨x',o',c',he,hL,hD,hS⟩=>⟨x',o',c',he,ao.to7 hL (by decide) _,hD,hS.N⟩
def vQ:Array Value:=#[.int .u8 0,.int .u8 0,.int .u8 0,.int .u8 0,.int .u8 0,.int .u8 0,.int .u8 0,.int .u8 0,.int .u8 0,.int .u8 0,.int .u8 0,.int .u8 0,.int .u8 0,.int .u8 0,.int .u8 0,.int .u8 0,.int .u8 0,.int .u8 0,.int .u8 0,.int .u8 0,.int .u8 0,.int .u8 0,.int .u8 0,.int .u8 0,.int .u8 0,.int .u8 0,.int .u8 0,.int .u8 0,.int .u8 0,.int .u8 0,.int .u8 0,.int .u8 0]
def fJ:Array Value:=#[.int .u8 234,.int .u8 3,.int .u8 99,.int .u8 0,.int .u8 0,.int .u8 0,.int .u8 0,.int .u8 0,.int .u8 0,.int .u8 0,.int .u8 0,.int .u8 0,.int .u8 0,.int .u8 0,.int .u8 0,.int .u8 0,.int .u8 235,.int .u8 3,.int .u8 99,.int .u8 0,.int .u8 0,.int .u8 0,.int .u8 0,.int .u8 0,.int .u8 0,.int .u8 0,.int .u8 0,.int .u8 0,.int .u8 0,.int .u8 0,.int .u8 0,.int .u8 0]
def fL:Array Value:=#[.int .u8 236,.int .u8 3,.int .u8 99,.int .u8 0,.int .u8 0,.int .u8 0,.int .u8 0,.int .u8 0,.int .u8 0,.int .u8 0,.int .u8 0,.int .u8 0,.int .u8 0,.int .u8 0,.int .u8 0,.int .u8 0,.int .u8 237,.int .u8 3,.int .u8 99,.int .u8 0,.int .u8 0,.int .u8 0,.int .u8 0,.int .u8 0,.int .u8 0,.int .u8 0,.int .u8 0,.int .u8 0,.int .u8 0,.int .u8 0,.int .u8 0,.int .u8 0]
theorem ld (A:Array Value) (h:A.size=32):(Tryz.prog.info? 46).map (·.size)=some A.size:=by rw[h];kernel_rfl
theorem tF:af (cN 1002)=#[.int .u8 234,.int .u8 3,.int .u8 99,.int .u8 0,.int .u8 0,.int .u8 0,.int .u8 0,.int .u8 0,.int .u8 0,.int .u8 0,.int .u8 0,.int .u8 0,.int .u8 0,.int .u8 0,.int .u8 0,.int .u8 0]:=by kernel_rfl
theorem ut:af (cN 1003)=#[.int .u8 235,.int .u8 3,.int .u8 99,.int .u8 0,.int .u8 0,.int .u8 0,.int .u8 0,.int .u8 0,.int .u8 0,.int .u8 0,.int .u8 0,.int .u8 0,.int .u8 0,.int .u8 0,.int .u8 0,.int .u8 0]:=by kernel_rfl
theorem tL:af (cN 1004)=#[.int .u8 236,.int .u8 3,.int .u8 99,.int .u8 0,.int .u8 0,.int .u8 0,.int .u8 0,.int .u8 0,.int .u8 0,.int .u8 0,.int .u8 0,.int .u8 0,.int .u8 0,.int .u8 0,.int .u8 0,.int .u8 0]:=by kernel_rfl
theorem tK:af (cN 1005)=#[.int .u8 237,.int .u8 3,.int .u8 99,.int .u8 0,.int .u8 0,.int .u8 0,.int .u8 0,.int .u8 0,.int .u8 0,.int .u8 0,.int .u8 0,.int .u8 0,.int .u8 0,.int .u8 0,.int .u8 0,.int .u8 0]:=by kernel_rfl
theorem ux:af (cN 1006)=#[.int .u8 238,.int .u8 3,.int .u8 99,.int .u8 0,.int .u8 0,.int .u8 0,.int .u8 0,.int .u8 0,.int .u8 0,.int .u8 0,.int .u8 0,.int .u8 0,.int .u8 0,.int .u8 0,.int .u8 0,.int .u8 0]:=by kernel_rfl
theorem ui:af (cN 1007)=#[.int .u8 239,.int .u8 3,.int .u8 99,.int .u8 0,.int .u8 0,.int .u8 0,.int .u8 0,.int .u8 0,.int .u8 0,.int .u8 0,.int .u8 0,.int .u8 0,.int .u8 0,.int .u8 0,.int .u8 0,.int .u8 0]:=by kernel_rfl
theorem tc:∀j,j < 16->fJ[j]? = some (.int .u8 (cN 1002 j)):=fun j hj=>by
 rcases (by omega:j=0\/j=1\/j=2\/j=3\/j=4\/j=5\/j=6\/j=7\/j=8\/j=9\/j=10\/j=11\/j=12\/j=13\/j=14\/j=15)with rfl | rfl | rfl | rfl | rfl | rfl | rfl | rfl | rfl | rfl | rfl | rfl | rfl | rfl | rfl | rfl<;>rfl
theorem oZ:∀j,j < 16->fJ[16+j]? = some (.int .u8 (cN 1003 j)):=fun j hj=>by
 rcases (by omega:j=0\/j=1\/j=2\/j=3\/j=4\/j=5\/j=6\/j=7\/j=8\/j=9\/j=10\/j=11\/j=12\/j=13\/j=14\/j=15)with rfl | rfl | rfl | rfl | rfl | rfl | rfl | rfl | rfl | rfl | rfl | rfl | rfl | rfl | rfl | rfl<;>rfl
theorem tr:∀j,j < 16->fL[j]? = some (.int .u8 (cN 1004 j)):=fun j hj=>by
 rcases (by omega:j=0\/j=1\/j=2\/j=3\/j=4\/j=5\/j=6\/j=7\/j=8\/j=9\/j=10\/j=11\/j=12\/j=13\/j=14\/j=15)with rfl | rfl | rfl | rfl | rfl | rfl | rfl | rfl | rfl | rfl | rfl | rfl | rfl | rfl | rfl | rfl<;>rfl
theorem pi:∀j,j < 16->fL[16+j]? = some (.int .u8 (cN 1005 j)):=fun j hj=>by
 rcases (by omega:j=0\/j=1\/j=2\/j=3\/j=4\/j=5\/j=6\/j=7\/j=8\/j=9\/j=10\/j=11\/j=12\/j=13\/j=14\/j=15)with rfl | rfl | rfl | rfl | rfl | rfl | rfl | rfl | rfl | rfl | rfl | rfl | rfl | rfl | rfl | rfl<;>rfl
def wH:Array Value:=#[.int .u8 238,.int .u8 3,.int .u8 99,.int .u8 0,.int .u8 0,.int .u8 0,.int .u8 0,.int .u8 0,.int .u8 0,.int .u8 0,.int .u8 0,.int .u8 0,.int .u8 0,.int .u8 0,.int .u8 0,.int .u8 0,.int .u8 0,.int .u8 0,.int .u8 0,.int .u8 0,.int .u8 0,.int .u8 0,.int .u8 0,.int .u8 0,.int .u8 0,.int .u8 0,.int .u8 0,.int .u8 0,.int .u8 0,.int .u8 0,.int .u8 0,.int .u8 0]
def wl:Array Value:=#[.int .u8 239,.int .u8 3,.int .u8 99,.int .u8 0,.int .u8 0,.int .u8 0,.int .u8 0,.int .u8 0,.int .u8 0,.int .u8 0,.int .u8 0,.int .u8 0,.int .u8 0,.int .u8 0,.int .u8 0,.int .u8 0,.int .u8 0,.int .u8 0,.int .u8 0,.int .u8 0,.int .u8 0,.int .u8 0,.int .u8 0,.int .u8 0,.int .u8 0,.int .u8 0,.int .u8 0,.int .u8 0,.int .u8 0,.int .u8 0,.int .u8 0,.int .u8 0]
theorem vE:∀j,j < 16->wH[j]? = some (.int .u8 (cN 1006 j)):=fun j hj=>by
 rcases (by omega:j=0\/j=1\/j=2\/j=3\/j=4\/j=5\/j=6\/j=7\/j=8\/j=9\/j=10\/j=11\/j=12\/j=13\/j=14\/j=15)with rfl | rfl | rfl | rfl | rfl | rfl | rfl | rfl | rfl | rfl | rfl | rfl | rfl | rfl | rfl | rfl<;>rfl
theorem vi:∀j,j < 16->wH[16+j]? = some (.int .u8 ((fun _=>(0:Int)) j)):=fun j hj=>by
 rcases (by omega:j=0\/j=1\/j=2\/j=3\/j=4\/j=5\/j=6\/j=7\/j=8\/j=9\/j=10\/j=11\/j=12\/j=13\/j=14\/j=15)with rfl | rfl | rfl | rfl | rfl | rfl | rfl | rfl | rfl | rfl | rfl | rfl | rfl | rfl | rfl | rfl<;>rfl
theorem vj:∀j,j < 16->wl[j]? = some (.int .u8 (cN 1007 j)):=fun j hj=>by
 rcases (by omega:j=0\/j=1\/j=2\/j=3\/j=4\/j=5\/j=6\/j=7\/j=8\/j=9\/j=10\/j=11\/j=12\/j=13\/j=14\/j=15)with rfl | rfl | rfl | rfl | rfl | rfl | rfl | rfl | rfl | rfl | rfl | rfl | rfl | rfl | rfl | rfl<;>rfl
theorem vI:∀j,j < 16->wl[16+j]? = some (.int .u8 ((fun _=>(0:Int)) j)):=fun j hj=>by
 rcases (by omega:j=0\/j=1\/j=2\/j=3\/j=4\/j=5\/j=6\/j=7\/j=8\/j=9\/j=10\/j=11\/j=12\/j=13\/j=14\/j=15)with rfl | rfl | rfl | rfl | rfl | rfl | rfl | rfl | rfl | rfl | rfl | rfl | rfl | rfl | rfl | rfl<;>rfl
theorem uM (cs:Array Value) (f:Nat->Int) (h:cs.size=32):∀j,j < 16->(br cs 0 (af f).toList)[j]? = some (.int .u8 (f j)):=fun j hj=>by
 have h1:=bt (af f).toList 0 cs j (by show j < 16;exact hj) (by omega);rw[Nat.zero_add]at h1;rw[h1,Array.getElem?_toList]
 exact aP f j hj
theorem uQ (cs:Array Value) (f:Nat->Int) (j:Nat):(br cs 0 (af f).toList)[16+j]? = cs[16+j]?:=ba _ _ _ _ (.inr (by show 0+16<=16+j;omega))
def nV (lb k13:Nat) (KT KR SV:Array Value) (W:World):Prop:=ae W k13 46 KT/\ae W (k13+1) 46 KR/\W.rangeAt lb 0 SV.toList
theorem qY {W:World} {b g h:Nat} {t:TypeId} {arr:Array Value} (hb:ae W b t arr) (c0:arr[0]? = some (.pointer (some ⟨g,0,none⟩))) (c1:arr[1]? = some (.pointer (some ⟨h,0,none⟩))):W.rangeAt b 0 (ap g h).toList:=fun j y hy=>by
 have hj:j < 2:=(List.getElem?_eq_some_iff.1 hy).1;rw[hb.cell];rcases (by omega:j=0\/j=1)with rfl | rfl
 ·exact c0.trans hy
 ·exact c1.trans hy
theorem gU {w0 W:World} {n:Nat} {A:Nat->Ag} {lb k13 g h:Nat} {arr KT KR:Array Value} (hF:ao w0 W n A) (hn:11<=n) (h6:A 6=bg lb 39 arr) (h9:A 9=bg k13 46 KT) (h10:A 10=bg (k13+1) 46 KR) (c0:arr[0]? = some (.pointer (some ⟨g,0,none⟩))) (c1:arr[1]? = some (.pointer (some ⟨h,0,none⟩))):nV lb k13 KT KR (ap g h) W:=
 ⟨ao.blk (i:=9) hF (by omega) h9,ao.blk (i:=10) hF (by omega) h10,qY (ao.blk (i:=6) hF (by omega) h6) c0 c1⟩
theorem fX {W:World} {b:Nat} {t:TypeId} {cs:Array Value} (hb:ae W b t cs):W.rangeAt b 0 cs.toList:=fun j y hy=>by rw[hb.cell,Nat.zero_add,<-hy,Array.getElem?_toList]
theorem i6 {k m:Nat} {U:List (Nat->Int)} (h:∀f,f∈U->∃m,m<=k/\f=cN m) {k':Nat} (hk:k<=k') (hm:m<=k'):∀f,f∈U++[cN m]->∃m,m<=k'/\f=cN m:=fun f hf=>by
 rcases List.mem_append.1 hf with hf | hf
 ·obtain⟨j,h1,h2⟩:=h f hf
  exact⟨j,by omega,h2⟩
 ·exact⟨m,hm,List.mem_singleton.1 hf⟩
theorem dY {w0 w:World} {n:Nat} {A:Nat->Ag} (h:ao w0 w n A) (hi:6 < n) {b:Nat} {arr:Array Value} (hA:A 6=bg b 39 arr) (m:Nat) (l:Array Value) (hl:af (cN (m+1))=l) (hm:m < 60000) (h8:arr[8]? = some (.int .i64 (m:Int))) :
  Calls Tryz.prog 12 #[.pointer (some ⟨b,0,none⟩)] w fun e w'=>e=.returned (.agg l)/\ao w0 w' n (bk A 6 (bg b 39 (arr.setIfInBounds 8 (.int .i64 ((m+1:Nat):Int))))):=by
 rw[<-hl]
 exact ao.key h hi hA hm h8
theorem li {f:Nat->Int}:∀{U:List (Nat->Int)},af f∈U.map af->bI f U=true:=fun {U} h=>by
 obtain⟨g,hg,e⟩:=List.mem_map.1 h;unfold bI;rw[List.any_eq_true];refine⟨g,hg,kO.2 (fun j hj=>?_)⟩;have h1:=aP g j hj;rw[e,aP f j hj]at h1;have h2:=Option.some.inj h1;injection h2
def vW (w0:World) (lb g h k9 k11 k13:Nat) (wx:World):Prop:=∃(A:Nat->Ag) (s:TS) (r:RS) (B:Option Addr) (cB:Nat) (vs:List SV) (KT KR la:Array Value),ao w0 wx 11 A/\A 0=eJ g s/\A 3=fT h r B cB vs/\A 6=bg lb 39 la/\la[0]? = some (.pointer (some ⟨g,0,none⟩))/\la[1]? = some (.pointer (some ⟨h,0,none⟩))/\A 7=bg k9 25 s.C.arr/\A 8=bg k11 25 r.C.arr/\A 9=bg k13 46 KT/\A 10=bg (k13+1) 46 KR/\KT.size=32/\KR.size=32/\s.P.length<=1000000/\∀V,ao w0 V 11 A->Calls Tryz.prog 13 #[.agg (ap g h),.agg KT,.agg KR] V fun e w'=>e=.returned (.int .i64 461)/\Below V.heap.size V w'
theorem ao.var {w0 w:World} {n:Nat} {A:Nat->Ag} (h:ao w0 w n A) (t:TypeId) (z cs:Array Value):ao w0 ((w.alloc (.cells z t)).setRow w.heap.size cs) (n+1) (bk A n (bg w.heap.size t cs)):=by
 have h1:=ao.setRowB (i:=n) (ao.newBlk h t z) (by omega) (bE _ _ _) cs
 exact h1.congr (fun j hj=>by
  by_cases e:j=n
  ·subst e;rw[bE,bE]
  ·rw[ca _ _ e,ca _ _ e,ca _ _ e])
theorem rO (cf:aq) (up wh:Int) (hup:0<=up/\up<=12) (hc:∀j,j < 16->0<=cf.code j/\cf.code j < 256) (hv:cf.lnk.Valid) (w:World):Calls Tryz.prog 3 #[.agg cf.arr,.int .i64 up,.int .i64 wh] w fun e w'=>e=.returned (.bool true)/\Below w.heap.size w w':=by
 obtain⟨ck,hck⟩:∃c,c=cf.lnk.wkey (cN 1001):=⟨_,rfl⟩
 have hB:=sJ cf hv;rw[<-hck]at hB;have hok:ck.Ok:=by rw[hck];exact⟨fun j _=>vL 1001 j,hc⟩
 have hvv:ck.Valid:=by rw[hck];exact hv
 have hd0:=fun X:Obj=>uF (pn:=tO) (z:=zK) (K:=1001) (cf:=ck) hok hvv (by rw[hck];rfl) (by rw[hck];rfl) (by rw[hck];rfl) (by rw[hck];rfl) (by rw[hck];rfl) X;have HKO:=zh (show ck.opp.key=cN 1001 by rw[hck];rfl);have HCMO:=zh (show ck.opp.cm=false by rw[hck];rfl);have HBN:=zh hB;have HD0:=zh hd0;have HSA:Hid ((Tryz.prog.info? 25).map (·.size)=some cf.arr.toList.length):=zh (by rw[Array.length_toList,aq.arr_size];exact aO);have HUC:=zh Tryz.underlying25;obtain⟨CA,hCA⟩:=ah cf.arr
 rw[<-hCA]at HBN HSA ⊢;have h0:¬up < 0:=by omega
 have h1:¬12 < up:=by omega
 clear hCA hv hB hok hvv hd0 hck hc;go_enter Tryz.func3,Tryz.ntmps3;go_upto_region 1 with (fail)
 obtain⟨kb,hkb⟩:=ah w.heap.size
 refine ai (fun V=>ae V kb 25 CA/\Below w.heap.size w V) ⟨by rw[hkb];exact ae.new _ _ _,(Below.refl _ w).alloc ay _⟩ ?_;rintro V ⟨b0,bx⟩;have BX:=zh bx;clear bx;rw[<-hkb];have HB0:=zh b0;have R0:=zh (show V.rangeAt kb 0 CA.toList from fun j y hy=>by rw[b0.cell,Nat.zero_add,<-hy,Array.getElem?_toList]);clear b0 hkb;go_upto_region 7 with (first
  | (refine wpList_load_mid rfl 25 _ rfl kb 0 rfl CA.toList _ R0.out HUC.out rfl HSA.out ?_)
  | (go_at_call 6;refine(HBN.out _).mono ?_;rintro e w1 ⟨lb,L,X,X',rfl,hL,hx0,hx1,hks,hv0,hv1⟩;have HL:=zh hL;have HX0:=zh hx0;have HKS:=zh (And.intro hx1 hks);clear hL hx0 hx1 hks hv0 hv1))
 clear h0 h1;have HDD:=zh (show bU tO zK 1001 L.x0 0 by rw[HX0.out];exact HD0.out X);have HUP:=zh hup;go_upto_region 8 with (fail)
 go_loopw [8] (fun v8 wr=>∃(i:Nat) (x':fO),v8=.int .i64 i/\(i:Int)<=up/\Lk V wr lb { L with x0:=x' }/\bU tO zK 1001 x' 0/\x'.N=0/\x'.q=i) (fun v8 _=>13-(intOf v8).toNat)
 case atStart=>exact⟨0,L.x0,rfl,HUP.out.1,HL.out,HDD.out,by rw[HX0.out],by rw[HX0.out]⟩
 case round=>
  obtain⟨i,x',rfl,hiu,hl,hd,hN,hq⟩:=hrel;have HI:=zh (And.intro hl (And.intro hd (And.intro hN hq)));have hi12:i<=12:=by have:=HUP.out.2;omega
  have hB:=ao.blk (i:=6) hl (by decide) rfl;have c0:wr.cell? ⟨lb,0,none⟩=some (.pointer (some ⟨L.t0,0,none⟩)):=hB.cell 0;by_cases hlt:(i:Int) < up
  ·have HSU:=zh (ox hl hd (i:=i) (by rw[hN,hq];omega) hi12);have hw:IntKind.u8.wrap (i:Int)=(i:Int):=by show(i:Int) % 256=i;omega
   clear hl hd hN hq hB;go_wp2_with (go_at_call 8;refine(HSU.out).mono ?_;rintro e w3 ⟨s',rfl,hL3,hD3⟩;have HL3:=zh (And.intro hL3 hD3);clear hL3 hD3);go_roundw
   case rel=>exact⟨i+1,{ x' with q:=x'.q+1,ts:=s' },by go_num,by omega,HL3.out.1,HL3.out.2,HI.out.2.2.1,by show x'.q+1=i+1;rw[HI.out.2.2.2]⟩
   case measure=>simp[intOf];omega
  ·have HSE:=zh (tj hl hd (by rw[hN,hq];omega) (by decide));clear hl hd hN hq hB;go_upto_region 14 with (go_at_call 9;refine(HSE.out).mono ?_;rintro e w3 ⟨x2,o2,c2,rfl,hL3,hD3,hN3⟩;have HL3:=zh hL3;have HD3:=zh hD3;have HN3:=zh hN3;clear hL3 hD3 hN3)
   have HTC:=zh (ao.tconfig (i:=0) HL3.out (by decide) rfl);obtain⟨CT,hCT⟩:∃c,c=x2.ts.C:=⟨_,rfl⟩
   have HCT:=zh hCT;have HST:Hid ((Tryz.prog.info? 25).map (·.size)=some CT.arr.size):=zh (by rw[CT.arr_size];exact aO);have HZT:Hid (jI.size=CT.arr.size):=zh (by rw[CT.arr_size];rfl);have HOT:=zh CT.arr_one;obtain⟨TA,hTA⟩:∃c,c=CT.arr:=⟨_,rfl⟩
   have HTC2:Hid (Calls Tryz.prog 10 #[.pointer (some ⟨L.t0,0,none⟩)] w3 fun e w'=>e=.returned (.tuple #[.agg TA,.int .i64 0])/\Below w3.heap.size w3 w'):=zh (by rw[hTA,hCT];exact HTC.out);rw[<-hTA]at HST HZT HOT;have HTA:=zh hTA;have hB3:=ao.blk (i:=6) HL3.out (by decide) rfl;have c0:w3.cell? ⟨lb,0,none⟩=some (.pointer (some ⟨L.t0,0,none⟩)):=hB3.cell 0;clear hTA hCT hB3 HTC;go_upto_region 15 with (first
    | (go_at_call 10;refine(HTC2.out).mono ?_;rintro e w4 ⟨rfl,hb⟩;have HL4:=zh (ao.below HL3.out hb);clear hb)
    | (refine wpList_store_row rfl _ _ _ rfl w4.heap.size TA rfl rfl 25 jI (ae.new w4 _ _) HST.out HZT.out HOT.out ?_))
   obtain⟨k9,hk9⟩:∃k,k=w4.heap.size:=⟨_,rfl⟩
   have hV5:=ao.var HL4.out 25 jI TA;rw[<-hk9]at hV5 ⊢;refine ai (fun V5=>ao V V5 8 (bk (eY.ag { L with x0:=x2,o0:=o2,co0:=c2 } lb) 7 (bg k9 25 TA))) hV5 ?_;intro V5 hF5;have HF5:=zh hF5;clear hF5 hV5 hk9 c0;have HRC:=zh (ao.rconfig (i:=3) HF5.out (by decide) rfl);obtain⟨CR,hCR⟩:∃c,c=L.x1.rs.C:=⟨_,rfl⟩
   have HCR:=zh hCR;have HSR:Hid ((Tryz.prog.info? 25).map (·.size)=some CR.arr.size):=zh (by rw[CR.arr_size];exact aO);have HZR:Hid (jI.size=CR.arr.size):=zh (by rw[CR.arr_size];rfl);have HOR:=zh CR.arr_one;obtain⟨RA,hRA⟩:∃c,c=CR.arr:=⟨_,rfl⟩
   have HRC2:Hid (Calls Tryz.prog 11 #[.pointer (some ⟨L.r1,0,none⟩)] V5 fun e w'=>e=.returned (.tuple #[.agg RA,.int .i64 0])/\Below V5.heap.size V5 w'):=zh (by rw[hRA,hCR];exact HRC.out);rw[<-hRA]at HSR HZR HOR;have HRA:=zh hRA;have hB5:=ao.blk (i:=6) HF5.out (by decide) rfl;have c1:V5.cell? ⟨lb,1,none⟩=some (.pointer (some ⟨L.r1,0,none⟩)):=hB5.cell 1;clear hRA hCR hB5 HRC;go_upto_region 16 with (first
    | (go_at_call 11;refine(HRC2.out).mono ?_;rintro e w6 ⟨rfl,hb⟩;have HL6:=zh (ao.below HF5.out hb);clear hb)
    | (refine wpList_store_row rfl _ _ _ rfl w6.heap.size RA rfl rfl 25 jI (ae.new w6 _ _) HSR.out HZR.out HOR.out ?_))
   obtain⟨k11,hk11⟩:∃k,k=w6.heap.size:=⟨_,rfl⟩
   have hV7:=ao.var HL6.out 25 jI RA;rw[<-hk11]at hV7 ⊢;refine ai (fun V7=>ao V V7 9 (bk (bk (eY.ag { L with x0:=x2,o0:=o2,co0:=c2 } lb) 7 (bg k9 25 TA)) 8 (bg k11 25 RA))) hV7 ?_;intro V7 hF7;have HF7:=zh hF7;clear hF7 hV7 hk11 c1;go_upto_region 17 with (first
    | (go_at_call 12;have hq:=G3.out;clear hq;refine(dY G3.out (by decide) rfl 1004 #[.int .u8 237,.int .u8 3,.int .u8 99,.int .u8 0,.int .u8 0,.int .u8 0,.int .u8 0,.int .u8 0,.int .u8 0,.int .u8 0,.int .u8 0,.int .u8 0,.int .u8 0,.int .u8 0,.int .u8 0,.int .u8 0] tK (by decide) rfl).mono ?_;rintro e w13 ⟨rfl,hb⟩;have G4:=zh hb;clear hb)
    | (go_at_call 12;have hq:=G2.out;clear hq;refine(dY G2.out (by decide) rfl 1003 #[.int .u8 236,.int .u8 3,.int .u8 99,.int .u8 0,.int .u8 0,.int .u8 0,.int .u8 0,.int .u8 0,.int .u8 0,.int .u8 0,.int .u8 0,.int .u8 0,.int .u8 0,.int .u8 0,.int .u8 0,.int .u8 0] tL (by decide) rfl).mono ?_;rintro e w12 ⟨rfl,hb⟩;have G3:=zh hb;clear hb)
    | (go_at_call 12;have hq:=G1.out;clear hq;refine(dY G1.out (by decide) rfl 1002 #[.int .u8 235,.int .u8 3,.int .u8 99,.int .u8 0,.int .u8 0,.int .u8 0,.int .u8 0,.int .u8 0,.int .u8 0,.int .u8 0,.int .u8 0,.int .u8 0,.int .u8 0,.int .u8 0,.int .u8 0,.int .u8 0] ut (by decide) rfl).mono ?_;rintro e w11 ⟨rfl,hb⟩;have G2:=zh hb;clear hb)
    | (go_at_call 12;refine(dY HF7.out (by decide) rfl 1001 #[.int .u8 234,.int .u8 3,.int .u8 99,.int .u8 0,.int .u8 0,.int .u8 0,.int .u8 0,.int .u8 0,.int .u8 0,.int .u8 0,.int .u8 0,.int .u8 0,.int .u8 0,.int .u8 0,.int .u8 0,.int .u8 0] tF (by decide) (by show some (Value.int .i64 ((L.keys:Nat):Int))=_;rw[HKS.out.2])).mono ?_;rintro e w10 ⟨rfl,hb⟩;have G1:=zh hb;clear hb)
    | (refine wpList_store_row rfl _ _ _ rfl w13.heap.size fJ rfl rfl 46 vQ ((ae.new w13 _ _).alloc _) (ld _ rfl) rfl (by kernel_rfl) ?_)
    | (refine wpList_store_row rfl _ _ _ rfl (w13.heap.size+1) fL rfl rfl 46 vQ (ae.farRow (aB _ _ _ _ (by simp)) (by omega)) (ld _ rfl) rfl (by kernel_rfl) ?_))
   have hV:=ao.setRowB (i:=10) (ao.setRowB (i:=9) (ao.newBlk (ao.newBlk G4.out 46 vQ) 46 vQ) (by decide) rfl fJ) (by decide) rfl fL;have hs:(w13.alloc (.cells vQ 46)).heap.size=w13.heap.size+1:=by simp
   rw[hs]at hV;obtain⟨k13,hk13⟩:∃k,k=w13.heap.size:=⟨_,rfl⟩
   rw[<-hk13]at hV ⊢;refine ai (fun V9=>ao V V9 11 (bk (bk (bk (bk (eY.ag { L with x0:=x2,o0:=o2,co0:=c2,keys:=1005 } lb) 7 (bg k9 25 TA)) 8 (bg k11 25 RA)) 9 (bg k13 46 fJ)) 10 (bg (k13+1) 46 fL))) (hV.congr (fun j hj=>by
    rcases (by omega:j=0\/j=1\/j=2\/j=3\/j=4\/j=5\/j=6\/j=7\/j=8\/j=9\/j=10)with rfl | rfl | rfl | rfl | rfl | rfl | rfl | rfl | rfl | rfl | rfl<;>rfl)) ?_
   intro V9 hF9;have HF9:=zh hF9;clear hF9 hV hs hk13;obtain⟨u,hu⟩:=ah (IntKind.u64.wrap wh)
   have hw1:IntKind.u64.wrap wh=u:=hu.symm;have hu0:0<=u/\u < 18446744073709551616:=by rw[hu,IntKind.wrap_u64];omega
   obtain⟨r,hr⟩:=ah (u % 3)
   have hm1:u % 3=r:=hr.symm;have hm2:u.tmod 3=r:=by rw[Int.tmod_eq_emod_of_nonneg hu0.1];exact hm1
   have hr3:r=0\/r=1\/r=2:=by omega
   have hw2:IntKind.i64.wrap r=r:=by simp[IntKind.wrap,IntKind.bits,IntKind.signed];omega
   have hw3:IntKind.u64.wrap r=r:=by rw[IntKind.wrap_u64];omega
   have HU:=zh hu0;have HR3:=zh hr3;clear hu hr hr3;go_upto_block 2 with (fail)
   clear hw1 hm1 hm2 hw2 hw3 hu0;go_cut [10,12]from 94 to 149 (fun v10 v12 wx=>v10=.int .i64 0/\v12=.int .i64 0/\vW V lb L.t0 L.r1 k9 k11 k13 wx)
   have HKR0:=zh (show CR.key=cN 1001/\L.x1.rs.used=[CR.key].map af/\CR.cm=false by
    refine⟨?_,?_,?_⟩
    ·rw[HCR.out,HKS.out.1];exact HKO.out
    ·rw[HCR.out,HKS.out.1];rfl
    ·rw[HCR.out,HKS.out.1];exact HCMO.out)
   have HPL:=zh (show x2.ts.P.length<=1000000 by
    have h1:=HD3.out.t.plen;have h2:=HN3.out;have h3:=HI.out.2.2.1;have h4:=HI.out.2.2.2;have h5:x2.N=x'.N+x'.q:=h2;omega)
   have HCT2:=zh (show CT.key=x2.cf.key by rw[HCT.out,HD3.out.t.C])
   case first=>
    obtain⟨UT,hUT,hUT2⟩:=HD3.out.gt;have HUT:=zh (And.intro hUT hUT2);clear hUT hUT2;rcases HR3.out with h3 | h3 | h3
    ·have e0:(r == 0)=true:=by rw[h3];rfl
     have e0':decide (r=0)=true:=by rw[h3];rfl
     clear h3;go_upto_region 23 with (fail)
     have hA9:=ao.blk (i:=7) HF9.out (by decide) rfl;have hA13:=zh (ao.blk (i:=9) HF9.out (by decide) rfl);have HUK:=zh Tryz.underlying23;have HRK:=zh (show V9.rangeAt k9 2 (af CT.key).toList from fun j y hy=>by
      have hj:j < 16:=(List.getElem?_eq_some_iff.1 hy).1;rw[hA9.cell,HTA.out,CT.arr_at (by omega),<-hy,Array.getElem?_toList,aP _ j hj];unfold aq.cell;rw[if_neg (by omega),if_neg (by omega),if_pos (by omega),show 2+j-2=j by omega])
     clear hA9;obtain⟨KY,hKY⟩:∃q,q=af CT.key:=⟨_,rfl⟩
     have HKY:=zh hKY;have HSY:=zh (bF CT.key);have HSZ:=zh (show(Tryz.prog.info? 23).map (·.size)=some (af CT.key).size by kernel_rfl);have HOY:=zh (ir CT.key);rw[<-hKY]at HRK HSY HOY HSZ;have HK16:=zh (show KY.size=16 by rw[hKY];rfl);clear hKY;go_wp2_with (first
      | (refine wpList_load_mid rfl _ _ rfl k9 2 rfl KY.toList _ HRK.out HUK.out rfl HSY.out ?_)
      | (refine wpList_store_mid rfl _ _ _ rfl k13 0 KY rfl rfl (aT hA13.out 0 KY.size (by rw[HK16.out];decide)) HSZ.out HOY.out ?_))
     have hFE:=ao.putRow (i:=9) HF9.out (by decide) rfl 0 KY.toList;go_meet
     case rel=>
      rw[HKY.out]at hFE ⊢;refine⟨rfl,rfl,_,x2.ts,L.x1.rs,L.o1,L.co1,L.x1.vs,_,fL,_,hFE,rfl,rfl,rfl,rfl,rfl,by show bg k9 25 TA=_;rw[HTA.out,HCT.out],by show bg k11 25 RA=_;rw[HRA.out,HCR.out],rfl,rfl,by rw[aD];rfl,rfl,HPL.out,fun V hV=>?_⟩
      exact ao.restTx (i:=0) (j:=3) hV (by decide) (by decide) rfl rfl (uM fJ CT.key rfl) (fun j hj=>(uQ fJ CT.key j).trans (oZ j hj)) tr pi UT HUT.out.1 (li (by rw[<-HUT.out.1,HCT2.out];exact HD3.out.kt))
    ·have e0:(r == 0)=false:=by rw[h3];rfl
     have e1:(r == 1)=true:=by rw[h3];rfl
     have e0':decide (r=0)=false:=by rw[h3];rfl
     have e1':decide (r=1)=true:=by rw[h3];rfl
     clear h3;go_upto_region 25 with (fail)
     have hA11:=ao.blk (i:=8) HF9.out (by decide) rfl;have hA14:=zh (ao.blk (i:=10) HF9.out (by decide) rfl);have HUK:=zh Tryz.underlying23;have HRK:=zh (show V9.rangeAt k11 2 (af CR.key).toList from fun j y hy=>by
      have hj:j < 16:=(List.getElem?_eq_some_iff.1 hy).1;rw[hA11.cell,HRA.out,CR.arr_at (by omega),<-hy,Array.getElem?_toList,aP _ j hj];unfold aq.cell;rw[if_neg (by omega),if_neg (by omega),if_pos (by omega),show 2+j-2=j by omega])
     clear hA11;obtain⟨KY,hKY⟩:∃q,q=af CR.key:=⟨_,rfl⟩
     have HKY:=zh hKY;have HSY:=zh (bF CR.key);have HSZ:=zh (show(Tryz.prog.info? 23).map (·.size)=some (af CR.key).size by kernel_rfl);have HOY:=zh (ir CR.key);rw[<-hKY]at HRK HSY HOY HSZ;have HK16:=zh (show KY.size=16 by rw[hKY];rfl);clear hKY;go_wp2_with (first
      | (refine wpList_load_mid rfl _ _ rfl k11 2 rfl KY.toList _ HRK.out HUK.out rfl HSY.out ?_)
      | (refine wpList_store_mid rfl _ _ _ rfl (k13+1) 0 KY rfl rfl (aT hA14.out 0 KY.size (by rw[HK16.out];decide)) HSZ.out HOY.out ?_))
     have hFE:=ao.putRow (i:=10) HF9.out (by decide) rfl 0 KY.toList;go_meet
     case rel=>
      rw[HKY.out]at hFE ⊢;refine⟨rfl,rfl,_,x2.ts,L.x1.rs,L.o1,L.co1,L.x1.vs,fJ,_,_,hFE,rfl,rfl,rfl,rfl,rfl,by show bg k9 25 TA=_;rw[HTA.out,HCT.out],by show bg k11 25 RA=_;rw[HRA.out,HCR.out],rfl,rfl,rfl,by rw[aD];rfl,HPL.out,fun V hV=>?_⟩
      exact ao.restRx (i:=0) (j:=3) hV (by decide) (by decide) rfl rfl tc oZ (uM fL CR.key rfl) (fun j hj=>(uQ fL CR.key j).trans (pi j hj)) UT [CR.key] HUT.out.1 HKR0.out.2.1 (da HUT.out.2 (by decide) (by decide)) (li (List.mem_singleton.2 rfl))
    ·have e0:(r == 0)=false:=by rw[h3];rfl
     have e1:(r == 1)=false:=by rw[h3];rfl
     have e0':decide (r=0)=false:=by rw[h3];rfl
     have e1':decide (r=1)=false:=by rw[h3];rfl
     clear h3;have hUR2:∀f,f∈[CR.key]->∃m,m<=1001/\f=cN m:=fun f hf=>⟨1001,Nat.le_refl _,(List.mem_singleton.1 hf).trans HKR0.out.1⟩
     have hcm1:L.x1.rs.C.cm=false:=by rw[<-HCR.out];exact HKR0.out.2.2
     obtain⟨s1,hs1⟩:∃s,s=x2.ts.rekeyed (cN 1002) (cN 1003):=⟨_,rfl⟩
     obtain⟨r1,hr1⟩:∃s,s=L.x1.rs.rekeyed (cN 1004) (cN 1005):=⟨_,rfl⟩
     obtain⟨s2,hs2⟩:∃s,s=s1.rekeyed (cN 1006) (fun _=>0):=⟨_,rfl⟩
     obtain⟨r2,hr2⟩:∃s,s=r1.rekeyed (cN 1007) (fun _=>0):=⟨_,rfl⟩
     have hu1:s1.used=(UT++[cN 1002]).map af:=by rw[hs1,List.map_append,<-HUT.out.1];rfl
     have hv1:r1.used=([CR.key]++[cN 1004]).map af:=by rw[hr1,List.map_append,<-HKR0.out.2.1];rfl
     have hu2:s2.used=(UT++[cN 1002]++[cN 1006]).map af:=by rw[hs2,List.map_append,<-hu1];rfl
     have hp1:s1.P.length<=1000000:=by rw[hs1];show(x2.ts.P.map PV.again).length<=_;rw[List.length_map];exact HPL.out
     have hp2:s2.P.length<=1000000:=by rw[hs2];show(s1.P.map PV.again).length<=_;rw[List.length_map];exact hp1
     have hco1:dR s1.comp:=by rw[hs1];exact pf
     have hcm2:r1.C.cm=false:=by rw[hr1];exact hcm1
     obtain⟨SV,hSV⟩:∃q,q=ap L.t0 L.r1:=⟨_,rfl⟩
     have HSS:Hid ((Tryz.prog.info? 34).map (·.size)=some SV.toList.length):=zh (by rw[hSV];kernel_rfl);have HS0:Hid (nV lb k13 fJ fL SV V9):=zh (by rw[hSV];exact gU (n:=11) HF9.out (by decide) rfl rfl rfl rfl rfl);have HR1:Hid (∀W,ao V W 11 (bk (bk (bk (bk (eY.ag { L with x0:=x2,o0:=o2,co0:=c2,keys:=1005 } lb) 7 (bg k9 25 TA)) 8 (bg k11 25 RA)) 9 (bg k13 46 fJ)) 10 (bg (k13+1) 46 fL))->Calls Tryz.prog 13 #[.agg SV,.agg fJ,.agg fL] W fun e w'=>e=.returned (.int .i64 0)/\ao V w' 11 (bk (bk (bk (bk (bk (bk (eY.ag { L with x0:=x2,o0:=o2,co0:=c2,keys:=1005 } lb) 7 (bg k9 25 TA)) 8 (bg k11 25 RA)) 9 (bg k13 46 fJ)) 10 (bg (k13+1) 46 fL)) 0 (eJ L.t0 s1)) 3 (fT L.r1 r1 L.o1 L.co1 L.x1.vs))/\nV lb k13 fJ fL SV w'):=zh (fun W hW=>by
      rw[hSV];refine(ao.rest (i:=0) (j:=3) hW (by decide) (by decide) (by decide) rfl rfl tc oZ tr pi UT [CR.key] HUT.out.1 HKR0.out.2.1 HD3.out.co HPL.out hcm1 (da HUT.out.2 (by decide) (by decide)) (da hUR2 (by decide) (by decide))).mono ?_;rintro e w' ⟨he,hF⟩;rw[<-hs1,<-hr1]at hF
      exact⟨he,hF,gU (n:=11) hF (by decide) rfl rfl rfl rfl rfl⟩)
     have HR2:Hid (∀W (la:Array Value),ao V W 11 (bk (bk (bk (bk (bk (bk (bk (eY.ag { L with x0:=x2,o0:=o2,co0:=c2,keys:=1005 } lb) 7 (bg k9 25 TA)) 8 (bg k11 25 RA)) 9 (bg k13 46 fJ)) 10 (bg (k13+1) 46 fL)) 0 (eJ L.t0 s1)) 3 (fT L.r1 r1 L.o1 L.co1 L.x1.vs)) 6 (bg lb 39 la))->Calls Tryz.prog 13 #[.agg SV,.agg wH,.agg wl] W fun e w'=>e=.returned (.int .i64 0)/\ao V w' 11 (bk (bk (bk (bk (bk (bk (bk (eY.ag { L with x0:=x2,o0:=o2,co0:=c2,keys:=1005 } lb) 7 (bg k9 25 TA)) 8 (bg k11 25 RA)) 9 (bg k13 46 fJ)) 10 (bg (k13+1) 46 fL)) 6 (bg lb 39 la)) 0 (eJ L.t0 s2)) 3 (fT L.r1 r2 L.o1 L.co1 L.x1.vs))):=zh (fun W la hW=>by
      rw[hSV];refine(ao.rest (i:=0) (j:=3) hW (by decide) (by decide) (by decide) rfl rfl vE vi vj vI _ _ hu1 hv1 hco1 hp1 hcm2 (da (i6 HUT.out.2 (show 1001<=1005 by decide) (by decide)) (by decide) (by decide)) (da (i6 hUR2 (show 1001<=1005 by decide) (by decide)) (by decide) (by decide))).mono ?_;rintro e w' ⟨he,hF⟩;rw[<-hs2,<-hr2]at hF
      exact⟨he,hF.congr (fun j hj=>by
       rcases (by omega:j=0\/j=1\/j=2\/j=3\/j=4\/j=5\/j=6\/j=7\/j=8\/j=9\/j=10)with rfl | rfl | rfl | rfl | rfl | rfl | rfl | rfl | rfl | rfl | rfl<;>rfl)⟩)
     have HU2:=zh (And.intro hu2 hp2);have HSV:=zh hSV;have HS18:=zh (show ∀W,ao V W 11 (bk (bk (bk (bk (eY.ag { L with x0:=x2,o0:=o2,co0:=c2,keys:=1005 } lb) 7 (bg k9 25 TA)) 8 (bg k11 25 RA)) 9 (bg k13 46 fJ)) 10 (bg (k13+1) 46 fL))->nV lb k13 fJ fL SV W from fun W hW=>by rw[hSV];exact gU (n:=11) hW (by decide) rfl rfl rfl rfl rfl);have HKS1:=zh (show ∀(w1 w2:World) (la lb2:Array Value),lb2[0]? = some (.pointer (some ⟨L.t0,0,none⟩))->lb2[1]? = some (.pointer (some ⟨L.r1,0,none⟩))->ao V w2 11 (bk (bk (bk (bk (bk (bk (bk (eY.ag { L with x0:=x2,o0:=o2,co0:=c2,keys:=1005 } lb) 7 (bg k9 25 TA)) 8 (bg k11 25 RA)) 9 (bg k13 46 fJ)) 10 (bg (k13+1) 46 fL)) 0 (eJ L.t0 s1)) 3 (fT L.r1 r1 L.o1 L.co1 L.x1.vs)) 6 (bg lb 39 lb2))->nV lb k13 fJ fL SV w2 from fun w1 w2 la lb2 c0 c1 hW=>by rw[hSV];exact gU (n:=11) hW (by decide) rfl rfl rfl c0 c1);have HKS2:=zh (show ∀(w2:World) (lb2:Array Value),lb2[0]? = some (.pointer (some ⟨L.t0,0,none⟩))->lb2[1]? = some (.pointer (some ⟨L.r1,0,none⟩))->ao V w2 11 (bk (bk (bk (bk (bk (bk (bk (eY.ag { L with x0:=x2,o0:=o2,co0:=c2,keys:=1005 } lb) 7 (bg k9 25 TA)) 8 (bg k11 25 RA)) 9 (bg k13 46 fJ)) 10 (bg (k13+1) 46 fL)) 6 (bg lb 39 lb2)) 0 (eJ L.t0 s2)) 3 (fT L.r1 r2 L.o1 L.co1 L.x1.vs))->nV lb k13 fJ fL SV w2 from fun w2 lb2 c0 c1 hW=>by rw[hSV];exact gU (n:=11) hW (by decide) rfl rfl rfl c0 c1);have HU46:=zh Tryz.underlying46;have HUS:=zh Tryz.underlying34;have HST1:Hid ((Tryz.prog.info? 46).map (·.size)=some fJ.toList.length):=zh (by kernel_rfl);have HSR1:Hid ((Tryz.prog.info? 46).map (·.size)=some fL.toList.length):=zh (by kernel_rfl);clear hs1 hr1 hs2 hr2 hu1 hv1 hu2 hp1 hp2 hco1 hcm1 hcm2 hUR2 hSV;go_upto_region 18 with (fail)
     have HRS:=zh (show ∀W,nV lb k13 fJ fL SV W->W.rangeAt lb 0 SV.toList from fun W hW=>hW.2.2);have HRT:=zh (show ∀W,nV lb k13 fJ fL SV W->W.rangeAt k13 0 fJ.toList from fun W hW=>fX hW.1);have HRR:=zh (show ∀W,nV lb k13 fJ fL SV W->W.rangeAt (k13+1) 0 fL.toList from fun W hW=>fX hW.2.1);refine wp_region_held_drew (S:=nV lb k13 fJ fL SV) (by kernel_rfl) HS0.out (fun hHeld=>?_);obtain⟨u0,hu0⟩:=ah V9.drew
     have HU0:=zh (HF9.out.below (w':=u0) (by rw[hu0];exact(Below.refl _ V9).drew));rw[<-hu0];rw[<-hu0]at hHeld;clear hu0;refine wpAnyH_take (i:=0) (oi:=⟨some 94,_,_,_,_,_⟩) (v:=.pointer (some ⟨lb,0,none⟩)) rfl (by kernel_rfl) (by kernel_rfl) (by kernel_rfl) (fun _ _ _ h=>h) (Or.inl ⟨by rfl,fun W hW=>(by rfl)⟩) (by assumption) ?_;try simp only[Act.put,List.setIfInBounds_toArray,List.set_cons_zero,List.set_cons_succ];refine wpAnyH_take (i:=1) (oi:=⟨some 95,_,_,_,_,_⟩) (v:=.pointer (some ⟨lb,0,none⟩)) rfl (by kernel_rfl) (by kernel_rfl) (by kernel_rfl) (fun _ _ _ h=>h) (Or.inl ⟨by rfl,fun W hW=>(by go_simp)⟩) (by assumption) ?_;try simp only[Act.put,List.setIfInBounds_toArray,List.set_cons_zero,List.set_cons_succ];refine wpAnyH_take (i:=2) (oi:=⟨some 96,_,_,_,_,_⟩) (v:=.pointer (some ⟨lb,0,none⟩)) rfl (by kernel_rfl) (by kernel_rfl) (by kernel_rfl) (fun _ _ _ h=>h) (Or.inl ⟨by rfl,fun W hW=>(by go_simp)⟩) (by assumption) ?_;try simp only[Act.put,List.setIfInBounds_toArray,List.set_cons_zero,List.set_cons_succ];refine wpAnyH_take (i:=3) (oi:=⟨some 97,_,_,_,_,_⟩) (v:=.pointer (some ⟨lb,0,none⟩)) rfl (by kernel_rfl) (by kernel_rfl) (by kernel_rfl) (fun _ _ _ h=>h) (Or.inl ⟨by rfl,fun W hW=>(by go_simp)⟩) (by assumption) ?_;try simp only[Act.put,List.setIfInBounds_toArray,List.set_cons_zero,List.set_cons_succ];refine' wpAnyH_take (i:=4) (oi:=⟨some 98,_,_,_,_,_⟩) (v:=_) rfl (by kernel_rfl) (by kernel_rfl) (by kernel_rfl) (fun _ _ _ h=>h) (yieldsIf_load_mid (by rfl) _ _ rfl lb 0 rfl SV.toList _ (fun W hW=>HRS.out W hW) HUS.out rfl HSS.out) (by assumption) ?_;try simp only[Act.put,List.setIfInBounds_toArray,List.set_cons_zero,List.set_cons_succ];refine' wpAnyH_take (i:=5) (oi:=⟨some 99,_,_,_,_,_⟩) (v:=_) rfl (by kernel_rfl) (by kernel_rfl) (by kernel_rfl) (fun _ _ _ h=>h) (yieldsIf_load_mid (by rfl) _ _ rfl k13 0 rfl fJ.toList _ (fun W hW=>HRT.out W hW) HU46.out rfl HST1.out) (by assumption) ?_;try simp only[Act.put,List.setIfInBounds_toArray,List.set_cons_zero,List.set_cons_succ];refine' wpAnyH_take (i:=6) (oi:=⟨some 100,_,_,_,_,_⟩) (v:=_) rfl (by kernel_rfl) (by kernel_rfl) (by kernel_rfl) (fun _ _ _ h=>h) (yieldsIf_load_mid (by rfl) _ _ rfl (k13+1) 0 rfl fL.toList _ (fun W hW=>HRR.out W hW) HU46.out rfl HSR1.out) (by assumption) ?_;try simp only[Act.put,List.setIfInBounds_toArray,List.set_cons_zero,List.set_cons_succ];refine wpAnyH_ready (rs:=[7]) (by kernel_rfl) (by simp) ?_;refine AllReadyH.cons (o:=⟨some 101,_,_,_,_,_⟩) rfl (fun K hK=>?_) AllReadyH.nil;rw[if_pos (by rfl)];go_simp;refine(HR1.out u0 HU0.out).mono ?_;rintro e u1 ⟨rfl,hF1,hS1⟩;dsimp only;have HU1:=zh hF1;clear hF1;refine hK.out _ _ (hS1) (fun hHeld=>?_);clear hK K hS1
     try simp only[Act.put,List.setIfInBounds_toArray,List.set_cons_zero,List.set_cons_succ]
     refine wpAnyH_take (i:=8) (oi:=⟨some 102,_,_,_,_,_⟩) (v:=.bool false) rfl (by kernel_rfl) (by kernel_rfl) (by kernel_rfl) (fun _ _ _ h=>h) (Or.inl ⟨by rfl,fun W hW=>(by go_simp)⟩) (by assumption) ?_;try simp only[Act.put,List.setIfInBounds_toArray,List.set_cons_zero,List.set_cons_succ];refine wpAnyH_take (i:=9) (oi:=⟨some 103,_,_,_,_,_⟩) (v:=.bool false) rfl (by kernel_rfl) (by kernel_rfl) (by kernel_rfl) (fun _ _ _ h=>h) (Or.inl ⟨by rfl,fun W hW=>(by rfl)⟩) (by assumption) ?_;try simp only[Act.put,List.setIfInBounds_toArray,List.set_cons_zero,List.set_cons_succ];refine wpAnyH_take (i:=10) (oi:=⟨some 104,_,_,_,_,_⟩) (v:=.pointer (some ⟨lb,0,none⟩)) rfl (by kernel_rfl) (by kernel_rfl) (by kernel_rfl) (fun _ _ _ h=>h) (Or.inl ⟨by rfl,fun W hW=>(by rfl)⟩) (by assumption) ?_;try simp only[Act.put,List.setIfInBounds_toArray,List.set_cons_zero,List.set_cons_succ];refine wpAnyH_take (i:=11) (oi:=⟨some 105,_,_,_,_,_⟩) (v:=.pointer (some ⟨lb,0,none⟩)) rfl (by kernel_rfl) (by kernel_rfl) (by kernel_rfl) (fun _ _ _ h=>h) (Or.inl ⟨by rfl,fun W hW=>(by go_simp)⟩) (by assumption) ?_;try simp only[Act.put,List.setIfInBounds_toArray,List.set_cons_zero,List.set_cons_succ];refine wpAnyH_take (i:=12) (oi:=⟨some 106,_,_,_,_,_⟩) (v:=.pointer (some ⟨lb,0,none⟩)) rfl (by kernel_rfl) (by kernel_rfl) (by kernel_rfl) (fun _ _ _ h=>h) (Or.inl ⟨by rfl,fun W hW=>(by go_simp)⟩) (by assumption) ?_;try simp only[Act.put,List.setIfInBounds_toArray,List.set_cons_zero,List.set_cons_succ];refine wpAnyH_take (i:=13) (oi:=⟨some 107,_,_,_,_,_⟩) (v:=.pointer (some ⟨lb,0,none⟩)) rfl (by kernel_rfl) (by kernel_rfl) (by kernel_rfl) (fun _ _ _ h=>h) (Or.inl ⟨by rfl,fun W hW=>(by go_simp)⟩) (by assumption) ?_;try simp only[Act.put,List.setIfInBounds_toArray,List.set_cons_zero,List.set_cons_succ];refine' wpAnyH_take (i:=14) (oi:=⟨some 108,_,_,_,_,_⟩) (v:=_) rfl (by kernel_rfl) (by kernel_rfl) (by kernel_rfl) (fun _ _ _ h=>h) (yieldsIf_load_mid (by rfl) _ _ rfl lb 0 rfl SV.toList _ (fun W hW=>HRS.out W hW) HUS.out rfl HSS.out) (by assumption) ?_;try simp only[Act.put,List.setIfInBounds_toArray,List.set_cons_zero,List.set_cons_succ];refine wpAnyH_take (i:=15) (oi:=⟨some 109,_,_,_,_,_⟩) (v:=.pointer (some ⟨lb,0,none⟩)) rfl (by kernel_rfl) (by kernel_rfl) (by kernel_rfl) (fun _ _ _ h=>h) (Or.inl ⟨by rfl,fun W hW=>(by rfl)⟩) (by assumption) ?_;try simp only[Act.put,List.setIfInBounds_toArray,List.set_cons_zero,List.set_cons_succ];refine wpAnyH_take (i:=17) (oi:=⟨some 111,_,_,_,_,_⟩) (v:=.agg #[.int .u8 0,.int .u8 0,.int .u8 0,.int .u8 0,.int .u8 0,.int .u8 0,.int .u8 0,.int .u8 0,.int .u8 0,.int .u8 0,.int .u8 0,.int .u8 0,.int .u8 0,.int .u8 0,.int .u8 0,.int .u8 0]) rfl (by kernel_rfl) (by kernel_rfl) (by kernel_rfl) (fun _ _ _ h=>h) (Or.inl ⟨by rfl,fun W hW=>(by go_simp)⟩) (by assumption) ?_;try simp only[Act.put,List.setIfInBounds_toArray,List.set_cons_zero,List.set_cons_succ];refine wpAnyH_take (i:=19) (oi:=⟨some 113,_,_,_,_,_⟩) (v:=.pointer (some ⟨lb,0,none⟩)) rfl (by kernel_rfl) (by kernel_rfl) (by kernel_rfl) (fun _ _ _ h=>h) (Or.inl ⟨by rfl,fun W hW=>(by rfl)⟩) (by assumption) ?_;try simp only[Act.put,List.setIfInBounds_toArray,List.set_cons_zero,List.set_cons_succ];refine wpAnyH_take (i:=21) (oi:=⟨some 115,_,_,_,_,_⟩) (v:=.agg #[.int .u8 0,.int .u8 0,.int .u8 0,.int .u8 0,.int .u8 0,.int .u8 0,.int .u8 0,.int .u8 0,.int .u8 0,.int .u8 0,.int .u8 0,.int .u8 0,.int .u8 0,.int .u8 0,.int .u8 0,.int .u8 0]) rfl (by kernel_rfl) (by kernel_rfl) (by kernel_rfl) (fun _ _ _ h=>h) (Or.inl ⟨by rfl,fun W hW=>(by go_simp)⟩) (by assumption) ?_;try simp only[Act.put,List.setIfInBounds_toArray,List.set_cons_zero,List.set_cons_succ];refine wpAnyH_ready (rs:=[16]) (by kernel_rfl) (by simp) ?_;refine AllReadyH.cons (o:=⟨some 110,_,_,_,_,_⟩) rfl (fun K hK=>?_) AllReadyH.nil;rw[if_pos (by rfl)];go_simp;refine(dY HU1.out (by decide) rfl 1005 #[.int .u8 238,.int .u8 3,.int .u8 99,.int .u8 0,.int .u8 0,.int .u8 0,.int .u8 0,.int .u8 0,.int .u8 0,.int .u8 0,.int .u8 0,.int .u8 0,.int .u8 0,.int .u8 0,.int .u8 0,.int .u8 0] ux (by decide) rfl).mono ?_;rintro e u2 ⟨rfl,hF2⟩;dsimp only;have HU2a:=zh hF2;clear hF2;refine hK.out _ _ (HKS1.out u1 u2 #[] _ rfl rfl HU2a.out) (fun hHeld=>?_);clear hK K
     try simp only[Act.put,List.setIfInBounds_toArray,List.set_cons_zero,List.set_cons_succ]
     refine wpAnyH_take (i:=18) (oi:=⟨some 112,_,_,_,_,_⟩) (v:=.agg #[.int .u8 238,.int .u8 3,.int .u8 99,.int .u8 0,.int .u8 0,.int .u8 0,.int .u8 0,.int .u8 0,.int .u8 0,.int .u8 0,.int .u8 0,.int .u8 0,.int .u8 0,.int .u8 0,.int .u8 0,.int .u8 0,.int .u8 0,.int .u8 0,.int .u8 0,.int .u8 0,.int .u8 0,.int .u8 0,.int .u8 0,.int .u8 0,.int .u8 0,.int .u8 0,.int .u8 0,.int .u8 0,.int .u8 0,.int .u8 0,.int .u8 0,.int .u8 0]) rfl (by kernel_rfl) (by kernel_rfl) (by kernel_rfl) (fun _ _ _ h=>h) (Or.inl ⟨by rfl,fun W hW=>(by go_simp)⟩) (by assumption) ?_;try simp only[Act.put,List.setIfInBounds_toArray,List.set_cons_zero,List.set_cons_succ];refine wpAnyH_ready (rs:=[20]) (by kernel_rfl) (by simp) ?_;refine AllReadyH.cons (o:=⟨some 114,_,_,_,_,_⟩) rfl (fun K hK=>?_) AllReadyH.nil;rw[if_pos (by rfl)];go_simp;refine(dY HU2a.out (by decide) rfl 1006 #[.int .u8 239,.int .u8 3,.int .u8 99,.int .u8 0,.int .u8 0,.int .u8 0,.int .u8 0,.int .u8 0,.int .u8 0,.int .u8 0,.int .u8 0,.int .u8 0,.int .u8 0,.int .u8 0,.int .u8 0,.int .u8 0] ui (by decide) rfl).mono ?_;rintro e u3 ⟨rfl,hF3⟩;dsimp only;have HU3a:=zh (show ao V u3 11 (bk (bk (bk (bk (bk (bk (bk (eY.ag { L with x0:=x2,o0:=o2,co0:=c2,keys:=1005 } lb) 7 (bg k9 25 TA)) 8 (bg k11 25 RA)) 9 (bg k13 46 fJ)) 10 (bg (k13+1) 46 fL)) 0 (eJ L.t0 s1)) 3 (fT L.r1 r1 L.o1 L.co1 L.x1.vs)) 6 (bg lb 39 (eY.arr { L with x0:=x2,o0:=o2,co0:=c2,keys:=1007 })))from hF3.congr (fun j hj=>by
      rcases (by omega:j=0\/j=1\/j=2\/j=3\/j=4\/j=5\/j=6\/j=7\/j=8\/j=9\/j=10)with rfl | rfl | rfl | rfl | rfl | rfl | rfl | rfl | rfl | rfl | rfl<;>rfl))
     clear hF3;refine hK.out _ _ (HKS1.out u2 u3 #[] _ rfl rfl HU3a.out) (fun hHeld=>?_);clear hK K
     try simp only[Act.put,List.setIfInBounds_toArray,List.set_cons_zero,List.set_cons_succ]
     refine wpAnyH_take (i:=22) (oi:=⟨some 116,_,_,_,_,_⟩) (v:=.agg #[.int .u8 239,.int .u8 3,.int .u8 99,.int .u8 0,.int .u8 0,.int .u8 0,.int .u8 0,.int .u8 0,.int .u8 0,.int .u8 0,.int .u8 0,.int .u8 0,.int .u8 0,.int .u8 0,.int .u8 0,.int .u8 0,.int .u8 0,.int .u8 0,.int .u8 0,.int .u8 0,.int .u8 0,.int .u8 0,.int .u8 0,.int .u8 0,.int .u8 0,.int .u8 0,.int .u8 0,.int .u8 0,.int .u8 0,.int .u8 0,.int .u8 0,.int .u8 0]) rfl (by kernel_rfl) (by kernel_rfl) (by kernel_rfl) (fun _ _ _ h=>h) (Or.inl ⟨by rfl,fun W hW=>(by go_simp)⟩) (by assumption) ?_;try simp only[Act.put,List.setIfInBounds_toArray,List.set_cons_zero,List.set_cons_succ];refine wpAnyH_ready (rs:=[23]) (by kernel_rfl) (by simp) ?_;refine AllReadyH.cons (o:=⟨some 117,_,_,_,_,_⟩) rfl (fun K hK=>?_) AllReadyH.nil;rw[if_pos (by rfl)];go_simp;refine(HR2.out u3 _ HU3a.out).mono ?_;rintro e u4 ⟨rfl,hF4⟩;dsimp only;have HU4:=zh hF4;clear hF4;refine hK.out _ _ (HKS2.out u4 _ rfl rfl HU4.out) (fun hHeld=>?_);clear hK K
     try simp only[Act.put,List.setIfInBounds_toArray,List.set_cons_zero,List.set_cons_succ]
     refine wpAnyH_take (i:=24) (oi:=⟨some 118,_,_,_,_,_⟩) (v:=.bool false) rfl (by kernel_rfl) (by kernel_rfl) (by kernel_rfl) (fun _ _ _ h=>h) (Or.inl ⟨by rfl,fun W hW=>(by go_simp)⟩) (by assumption) ?_;try simp only[Act.put,List.setIfInBounds_toArray,List.set_cons_zero,List.set_cons_succ];refine wpAnyH_take (i:=25) (oi:=⟨some 119,_,_,_,_,_⟩) (v:=.bool false) rfl (by kernel_rfl) (by kernel_rfl) (by kernel_rfl) (fun _ _ _ h=>h) (Or.inl ⟨by rfl,fun W hW=>(by go_simp)⟩) (by assumption) ?_;try simp only[Act.put,List.setIfInBounds_toArray,List.set_cons_zero,List.set_cons_succ];refine wpAnyH_done (by kernel_rfl) ?_ _;clear hHeld;obtain⟨AF,f0,f3,f6,f7,f8,f9,f10,hF⟩:∃AF:Nat->Ag,AF 0=eJ L.t0 s2/\AF 3=fT L.r1 r2 L.o1 L.co1 L.x1.vs/\AF 6=bg lb 39 (eY.arr { L with x0:=x2,o0:=o2,co0:=c2,keys:=1007 })/\AF 7=bg k9 25 TA/\AF 8=bg k11 25 RA/\AF 9=bg k13 46 fJ/\AF 10=bg (k13+1) 46 fL/\ao V u4 11 AF:=⟨_,rfl,rfl,rfl,rfl,rfl,rfl,rfl,HU4.out⟩
     obtain⟨la,hla⟩:∃q,q=eY.arr { L with x0:=x2,o0:=o2,co0:=c2,keys:=1007 }:=⟨_,rfl⟩
     have hl0:la[0]? = some (.pointer (some ⟨L.t0,0,none⟩)):=by rw[hla];rfl
     have hl1:la[1]? = some (.pointer (some ⟨L.r1,0,none⟩)):=by rw[hla];rfl
     rw[<-hla]at f6;have HFA:=zh (And.intro f0 (And.intro f3 (And.intro f6 (And.intro f7 (And.intro f8 (And.intro f9 f10))))));have HLA:=zh (And.intro hl0 hl1);have c0:u4.cell? ⟨lb,0,none⟩=some (.pointer (some ⟨L.t0,0,none⟩)):=((ao.blk (i:=6) hF (by decide) f6).cell 0).trans hl0;have HTC:=ao.tconfig (i:=0) hF (by decide) f0;have B7:=zh (fun(W:World) (hW:ao V W 11 AF)=>ao.blk (i:=7) hW (by decide) HFA.out.2.2.2.1);have HF4:=zh hF;obtain⟨TB,hTB⟩:∃c,c=s2.C.arr:=⟨_,rfl⟩
     have HTB:=zh hTB;have HSTB:Hid ((Tryz.prog.info? 25).map (·.size)=some TB.size):=zh (by rw[hTB,aq.arr_size];exact aO);have HZTB:Hid (TA.size=TB.size):=zh (by rw[HTA.out,hTB,aq.arr_size,aq.arr_size]);have HOTB:Hid (TB.all (·.oneCell')=true):=zh (by rw[hTB];exact aq.arr_one _);rw[<-hTB]at HTC;have HTC2:=zh HTC;clear hla hl0 hl1 f0 f3 f6 f7 f8 f9 f10 hF HTC hTB;go_upto_region 21 with (first
      | (go_at_call 10;refine(HTC2.out).mono ?_;rintro e u5 ⟨rfl,hb⟩;have HF5:=zh (HF4.out.below hb);clear hb)
      | (refine wpList_store_row rfl _ _ _ rfl k9 TB rfl rfl 25 TA (B7.out _ HF5.out) HSTB.out HZTB.out HOTB.out ?_))
     refine ai (fun V5=>ao V V5 11 (bk AF 7 (bg k9 25 TB))) (ao.setRowB (i:=7) HF5.out (by decide) HFA.out.2.2.2.1 TB) ?_;intro U6 hF6;have c1:U6.cell? ⟨lb,1,none⟩=some (.pointer (some ⟨L.r1,0,none⟩)):=((ao.blk (i:=6) hF6 (by decide) HFA.out.2.2.1).cell 1).trans HLA.out.2;have HRC:=ao.rconfig (i:=3) hF6 (by decide) HFA.out.2.1;have B8:=zh (fun(W:World) (hW:ao V W 11 (bk AF 7 (bg k9 25 TB)))=>ao.blk (i:=8) hW (by decide) HFA.out.2.2.2.2.1);have HF6:=zh hF6;obtain⟨RB,hRB⟩:∃c,c=r2.C.arr:=⟨_,rfl⟩
     have HRB:=zh hRB;have HSRB:Hid ((Tryz.prog.info? 25).map (·.size)=some RB.size):=zh (by rw[hRB,aq.arr_size];exact aO);have HZRB:Hid (RA.size=RB.size):=zh (by rw[HRA.out,hRB,aq.arr_size,aq.arr_size]);have HORB:Hid (RB.all (·.oneCell')=true):=zh (by rw[hRB];exact aq.arr_one _);rw[<-hRB]at HRC;have HRC2:=zh HRC;clear hF6 HRC hRB c0;go_wp2_with (first
      | (go_at_call 11;refine(HRC2.out).mono ?_;rintro e u7 ⟨rfl,hb⟩;have HF7:=zh (HF6.out.below hb);clear hb)
      | (refine wpList_store_row rfl _ _ _ rfl k11 RB rfl rfl 25 RA (B8.out _ HF7.out) HSRB.out HZRB.out HORB.out ?_))
     have hF8:=ao.setRowB (i:=8) HF7.out (by decide) HFA.out.2.2.2.2.1 RB;go_meet
     case rel=>
      refine⟨rfl,rfl,_,s2,r2,L.o1,L.co1,L.x1.vs,fJ,fL,la,hF8,HFA.out.1,HFA.out.2.1,HFA.out.2.2.1,HLA.out.1,HLA.out.2,by show bg k9 25 TB=_;rw[HTB.out],by show bg k11 25 RB=_;rw[HRB.out],HFA.out.2.2.2.2.2.1,HFA.out.2.2.2.2.2.2,rfl,rfl,HU2.out.2,fun V hV=>?_⟩
      exact ao.restTx (i:=0) (j:=3) hV (by decide) (by decide) HFA.out.1 HFA.out.2.1 tc oZ tr pi _ HU2.out.1 (li (by simp))
   case rest=>
    obtain⟨rfl,rfl,A,s,rr,B,cB,vs,KT,KR,la,hF,a0,a3,a6,l0,l1,a7,a8,a9,a10,sT,sR,hP,hR⟩:=hcut;have HA0:=zh (And.intro a0 (And.intro a3 (And.intro a6 (And.intro a7 (And.intro a8 (And.intro a9 a10))))));have HL01:=zh (And.intro l0 l1);have HREE:=zh hR;have HF0:=zh hF;have HRP0:∀(W:World) (n:Nat) (A':Nat->Ag),ao V W n A'->0 < n->A' 0=eJ L.t0 s->Calls Tryz.prog 14 #[.pointer (some ⟨L.t0,0,none⟩)] W fun e w'=>e=.returned (.int .i64 (eF s.P:Nat))/\Below W.heap.size W w':=fun W n A' hW hn h0=>ao.trepeats (i:=0) hW hn h0 hP;obtain⟨rn,hrn⟩:∃q:Int,q=((eF s.P:Nat):Int):=⟨_,rfl⟩
    rw[<-hrn]at HRP0;have HRP:=zh HRP0;obtain⟨Z,hZ⟩:∃q,q=s.C.arr:=⟨_,rfl⟩
    obtain⟨Y,hY⟩:∃q,q=rr.C.arr:=⟨_,rfl⟩
    have HZY:=zh (And.intro hZ hY);have hself1:=lW s.C;have hself2:=lW rr.C;rw[<-hZ]at hself1;rw[<-hY]at hself2;have HSF:=zh (And.intro hself1 hself2);have HSZ1:Hid ((Tryz.prog.info? 25).map (·.size)=some Z.size):=zh (by rw[hZ,aq.arr_size];exact aO);have HZZ1:Hid (jI.size=Z.size):=zh (by rw[hZ,aq.arr_size];rfl);have HOZ1:Hid (Z.all (·.oneCell')=true):=zh (by rw[hZ];exact aq.arr_one _);have HSY1:Hid ((Tryz.prog.info? 25).map (·.size)=some Y.size):=zh (by rw[hY,aq.arr_size];exact aO);have HZY1:Hid (jI.size=Y.size):=zh (by rw[hY,aq.arr_size];rfl);have HOY1:Hid (Y.all (·.oneCell')=true):=zh (by rw[hY];exact aq.arr_one _);obtain⟨SV,hSV⟩:∃q,q=ap L.t0 L.r1:=⟨_,rfl⟩
    have HSS:Hid ((Tryz.prog.info? 34).map (·.size)=some SV.toList.length):=zh (by rw[hSV];kernel_rfl);have HS18:=zh (show ∀W,ao V W 11 A->nV lb k13 KT KR SV W from fun W hW=>by rw[hSV];exact gU (n:=11) hW (by decide) a6 a9 a10 l0 l1);have HREV:=zh (show ∀W,ao V W 11 A->Calls Tryz.prog 13 #[.agg SV,.agg KT,.agg KR] W fun e w'=>e=.returned (.int .i64 461)/\Below W.heap.size W w' from fun W hW=>by rw[hSV];exact hR W hW);have HSKT:Hid ((Tryz.prog.info? 46).map (·.size)=some KT.toList.length):=zh (by rw[Array.length_toList];exact ld _ sT);have HSKR:Hid ((Tryz.prog.info? 46).map (·.size)=some KR.toList.length):=zh (by rw[Array.length_toList];exact ld _ sR);have HU46:=zh Tryz.underlying46;have HUS:=zh Tryz.underlying34;have c0:wc.cell? ⟨lb,0,none⟩=some (.pointer (some ⟨L.t0,0,none⟩)):=((ao.blk (i:=6) hF (by decide) a6).cell 0).trans l0;clear hF a0 a3 a6 l0 l1 a7 a8 a9 a10 sT sR hP hR HRP0 hrn hZ hY hself1 hself2 hSV;go_upto_region 27 with (go_at_call 14;refine(HRP.out _ _ _ HF0.out (by decide) HA0.out.1).mono ?_;rintro e w26 ⟨rfl,hb⟩;have HF1:=zh (HF0.out.below hb);clear hb)
    have HRS:=zh (show ∀W,nV lb k13 KT KR SV W->W.rangeAt lb 0 SV.toList from fun W hW=>hW.2.2);have HRT:=zh (show ∀W,nV lb k13 KT KR SV W->W.rangeAt k13 0 KT.toList from fun W hW=>fX hW.1);have HRR:=zh (show ∀W,nV lb k13 KT KR SV W->W.rangeAt (k13+1) 0 KR.toList from fun W hW=>fX hW.2.1);clear c0;refine wp_region_held_drew (S:=nV lb k13 KT KR SV) (by kernel_rfl) (HS18.out _ (HF1.out.below (Below.refl _ w26).drew)) (fun hHeld=>?_);obtain⟨u0,hu0⟩:=ah w26.drew
    have HU0:=zh (HF1.out.below (w':=u0) (by rw[hu0];exact(Below.refl _ w26).drew));rw[<-hu0];rw[<-hu0]at hHeld;clear hu0;refine wpAnyH_take (i:=0) (oi:=⟨some 157,_,_,_,_,_⟩) (v:=.pointer (some ⟨lb,0,none⟩)) rfl (by kernel_rfl) (by kernel_rfl) (by kernel_rfl) (fun _ _ _ h=>h) (Or.inl ⟨by rfl,fun W hW=>(by rfl)⟩) (by assumption) ?_;try simp only[Act.put,List.setIfInBounds_toArray,List.set_cons_zero,List.set_cons_succ];refine wpAnyH_take (i:=1) (oi:=⟨some 158,_,_,_,_,_⟩) (v:=.pointer (some ⟨lb,0,none⟩)) rfl (by kernel_rfl) (by kernel_rfl) (by kernel_rfl) (fun _ _ _ h=>h) (Or.inl ⟨by rfl,fun W hW=>(by go_simp)⟩) (by assumption) ?_;try simp only[Act.put,List.setIfInBounds_toArray,List.set_cons_zero,List.set_cons_succ];refine wpAnyH_take (i:=2) (oi:=⟨some 159,_,_,_,_,_⟩) (v:=.pointer (some ⟨lb,0,none⟩)) rfl (by kernel_rfl) (by kernel_rfl) (by kernel_rfl) (fun _ _ _ h=>h) (Or.inl ⟨by rfl,fun W hW=>(by go_simp)⟩) (by assumption) ?_;try simp only[Act.put,List.setIfInBounds_toArray,List.set_cons_zero,List.set_cons_succ];refine wpAnyH_take (i:=3) (oi:=⟨some 160,_,_,_,_,_⟩) (v:=.pointer (some ⟨lb,0,none⟩)) rfl (by kernel_rfl) (by kernel_rfl) (by kernel_rfl) (fun _ _ _ h=>h) (Or.inl ⟨by rfl,fun W hW=>(by go_simp)⟩) (by assumption) ?_;try simp only[Act.put,List.setIfInBounds_toArray,List.set_cons_zero,List.set_cons_succ];refine' wpAnyH_take (i:=4) (oi:=⟨some 161,_,_,_,_,_⟩) (v:=_) rfl (by kernel_rfl) (by kernel_rfl) (by kernel_rfl) (fun _ _ _ h=>h) (yieldsIf_load_mid (by rfl) _ _ rfl lb 0 rfl SV.toList _ (fun W hW=>HRS.out W hW) HUS.out rfl HSS.out) (by assumption) ?_;try simp only[Act.put,List.setIfInBounds_toArray,List.set_cons_zero,List.set_cons_succ];refine' wpAnyH_take (i:=5) (oi:=⟨some 162,_,_,_,_,_⟩) (v:=_) rfl (by kernel_rfl) (by kernel_rfl) (by kernel_rfl) (fun _ _ _ h=>h) (yieldsIf_load_mid (by rfl) _ _ rfl k13 0 rfl KT.toList _ (fun W hW=>HRT.out W hW) HU46.out rfl HSKT.out) (by assumption) ?_;try simp only[Act.put,List.setIfInBounds_toArray,List.set_cons_zero,List.set_cons_succ];refine' wpAnyH_take (i:=6) (oi:=⟨some 163,_,_,_,_,_⟩) (v:=_) rfl (by kernel_rfl) (by kernel_rfl) (by kernel_rfl) (fun _ _ _ h=>h) (yieldsIf_load_mid (by rfl) _ _ rfl (k13+1) 0 rfl KR.toList _ (fun W hW=>HRR.out W hW) HU46.out rfl HSKR.out) (by assumption) ?_;try simp only[Act.put,List.setIfInBounds_toArray,List.set_cons_zero,List.set_cons_succ];refine wpAnyH_ready (rs:=[7]) (by kernel_rfl) (by simp) ?_;refine AllReadyH.cons (o:=⟨some 164,_,_,_,_,_⟩) rfl (fun K hK=>?_) AllReadyH.nil;rw[if_pos (by rfl)];go_simp;refine(HREV.out u0 HU0.out).mono ?_;rintro e u1 ⟨rfl,hb⟩;dsimp only;have HU1:=zh (HU0.out.below hb);clear hb;refine hK.out _ _ (HS18.out u1 HU1.out) (fun hHeld=>?_);clear hK K
    try simp only[Act.put,List.setIfInBounds_toArray,List.set_cons_zero,List.set_cons_succ]
    refine wpAnyH_take (i:=8) (oi:=⟨some 16,_,_,_,_,_⟩) (v:=.int .i64 461) rfl (by kernel_rfl) (by kernel_rfl) (by kernel_rfl) (fun _ _ _ h=>h) (Or.inl ⟨by rfl,fun W hW=>(by rfl)⟩) (by assumption) ?_;try simp only[Act.put,List.setIfInBounds_toArray,List.set_cons_zero,List.set_cons_succ];refine wpAnyH_done (by kernel_rfl) ?_ _;clear hHeld;have c0:u1.cell? ⟨lb,0,none⟩=some (.pointer (some ⟨L.t0,0,none⟩)):=((ao.blk (i:=6) HU1.out (by decide) HA0.out.2.2.1).cell 0).trans HL01.out.1;have HTC:=ao.tconfig (i:=0) HU1.out (by decide) HA0.out.1;rw[<-HZY.out.1]at HTC;have HTC2:=zh HTC;clear HTC;go_upto_region 29 with (first
     | (go_at_call 10;refine(HTC2.out).mono ?_;rintro e u2 ⟨rfl,hb⟩;have HU2:=zh (HU1.out.below hb);clear hb)
     | (refine wpList_store_row rfl _ _ _ rfl u2.heap.size Z rfl rfl 25 jI (ae.new u2 _ _) HSZ1.out HZZ1.out HOZ1.out ?_))
    obtain⟨k17,hk17⟩:∃k,k=u2.heap.size:=⟨_,rfl⟩
    have hU3:=ao.var HU2.out 25 jI Z;rw[<-hk17]at hU3 ⊢;refine ai (fun U3=>ao V U3 12 (bk A 11 (bg k17 25 Z))) hU3 ?_;intro U3 hF3;have HU3:=zh hF3;have c1:U3.cell? ⟨lb,1,none⟩=some (.pointer (some ⟨L.r1,0,none⟩)):=((ao.blk (i:=6) hF3 (by decide) HA0.out.2.2.1).cell 1).trans HL01.out.2;have HRC:=ao.rconfig (i:=3) hF3 (by decide) HA0.out.2.1;rw[<-HZY.out.2]at HRC;have HRC2:=zh HRC;clear HRC hF3 hU3 hk17 c0;go_upto_region 30 with (first
     | (go_at_call 11;refine(HRC2.out).mono ?_;rintro e u4 ⟨rfl,hb⟩;have HU4:=zh (HU3.out.below hb);clear hb)
     | (refine wpList_store_row rfl _ _ _ rfl u4.heap.size Y rfl rfl 25 jI (ae.new u4 _ _) HSY1.out HZY1.out HOY1.out ?_))
    obtain⟨k19,hk19⟩:∃k,k=u4.heap.size:=⟨_,rfl⟩
    have hU5:=ao.var HU4.out 25 jI Y;rw[<-hk19]at hU5 ⊢;refine ai (fun U5=>ao V U5 13 (bk (bk A 11 (bg k17 25 Z)) 12 (bg k19 25 Y))) hU5 ?_;intro U5 hF5;have HU5:=zh hF5;have B17:=zh (ao.blk (i:=11) hF5 (by decide) rfl);have B19:=zh (ao.blk (i:=12) hF5 (by decide) rfl);have B9:Hid (ae U5 k9 25 Z):=zh (ao.blk (i:=7) hF5 (by decide) (by rw[HZY.out.1];exact HA0.out.2.2.2.1));have B11:Hid (ae U5 k11 25 Y):=zh (ao.blk (i:=8) hF5 (by decide) (by rw[HZY.out.2];exact HA0.out.2.2.2.2.1));have c0:U5.cell? ⟨lb,0,none⟩=some (.pointer (some ⟨L.t0,0,none⟩)):=((ao.blk (i:=6) hF5 (by decide) HA0.out.2.2.1).cell 0).trans HL01.out.1;have hself1:=HSF.out.1;have hself2:=HSF.out.2;clear hF5 hU5 hk19 c1;go_wp2_with (first
     | (refine bB (by rfl) _ _ rfl k17 rfl 25 Z (0,0) _ B17.out HUC.out rfl HSZ1.out ?_)
     | (refine bB (by rfl) _ _ rfl k9 rfl 25 Z (0,0) _ B9.out HUC.out rfl HSZ1.out ?_)
     | (refine bB (by rfl) _ _ rfl k19 rfl 25 Y (0,0) _ B19.out HUC.out rfl HSY1.out ?_)
     | (refine bB (by rfl) _ _ rfl k11 rfl 25 Y (0,0) _ B11.out HUC.out rfl HSY1.out ?_)
     | (go_at_call 14;refine(HRP.out _ _ _ HU5.out (by decide) HA0.out.1).mono ?_;rintro e u6 ⟨rfl,hb⟩;have HU6:=zh (HU5.out.below hb);clear hb)
     | (go_at_call 5;refine(fH _).mono ?_;rintro e u7 ⟨rfl,hb⟩;have HBE:=zh (BX.out.trans ((HU6.out.low.trans (hb.mono HU6.out.low.size)).mono BX.out.size));clear hb))
    go_ret
    exact⟨rfl,HBE.out⟩
end Go.Proofs.YtbfpdnnphdagjaaGreat
namespace Go.Proofs.YtbfpdnnphdagjaaGreat
open Go.RowKit
theorem qo (cf:aq) (hok:cf.Ok) (up wh:Int) (w:World):Calls Tryz.prog 3 #[.agg cf.arr,.int .i64 up,.int .i64 wh] w fun e w'=>e=.returned (.bool true)/\Below w.heap.size w w':=by
 by_cases h:0<=up/\up<=12
 ·by_cases hv:cf.lnk.Valid
  ·exact rO cf up wh h hok.2 hv w
  ·exact ua cf up wh h hv w
 ·exact rF cf up wh (by omega) w
end Go.Proofs.YtbfpdnnphdagjaaGreat

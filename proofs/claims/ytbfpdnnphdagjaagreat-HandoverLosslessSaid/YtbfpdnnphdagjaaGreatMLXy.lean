import Derived.Test.YtbfpdnnphdagjaaGreatMZMy
import Derived.Test.YtbfpdnnphdagjaaGreatMCFy
import Derived.Test.YtbfpdnnphdagjaaGreatMSDy
import Derived.Test.YtbfpdnnphdagjaaGreatMDAy
import Derived.Test.YtbfpdnnphdagjaaGreatMZOy
import Derived.Test.YtbfpdnnphdagjaaGreatMLTy
import Derived.Test.YtbfpdnnphdagjaaGreatSEy
import Derived.BigQuiet
import Derived.BigRegion
import Derived.Deep.MidRow
import Derived.Test.YtbfpdnnphdagjaaGreatB1y
set_option maxRecDepth 100000
set_option maxHeartbeats 3200000
set_option linter.unusedVariables false
set_option linter.unusedSimpArgs false
namespace Go.Proofs.YtbfpdnnphdagjaaGreat
open Go.RowKit
attribute [local go_sem ↓] Go.wp_at_zero Go.wp_at_succ
def qi:Value->Nat
 | .slice _ n _=>n
 | _=>0
theorem Tryz.vinfoBool:(Tryz.prog.info? 4).map (fun i=>(i.zero,i.size,i.bytes))=some (some (.bool false),1,1):=by kernel_rfl
theorem xI (w:World) (b:Bool):Src Tryz.prog 1 60 (.slice (some ⟨w.heap.size,0,none⟩) 1 1) 1 [.bool b] (w.alloc (.cells #[.bool b] 4)):=
 Src.ofSlice _ Tryz.underlying60 ⟨w.heap.size,0,none⟩ 1 1 _ (by rfl) (fun j u hu=>by
  rw[Addr.add_lit,Nat.zero_add,(ae.new w 4 #[.bool b]).cell j];simpa using hu) (by intro u hu;simp at hu;rcases hu with rfl;rfl)
def gT (s:RS) (k:Nat):List Value:=(List.range k).map fun(j:Nat)=>.bool (stored s.L (s.deliver+1+(j:Int)))
theorem sc (s:RS) (k:Nat):gT s (k+1)=gT s k++[.bool (stored s.L (s.deliver+1+(k:Int)))]:=by
 unfold gT;rw[List.range_succ,List.map_append]
 rfl
def RS.statN (s:RS):Nat:=(s.next-s.deliver-1).toNat
theorem nu (h:Nat) (s:RS) (W R:Nat->Prop) (sb:Nat) (l:List SE) (ub eb:Nat) (w:World) (m:aN w h s W R sb l ub eb) :
  Calls Tryz.prog 58 #[.pointer (some ⟨h,0,none⟩)] w fun e w'=>∃A2 c2,e=.returned (.tuple #[.int .u64 s.deliver,.slice A2 s.statN c2])/\SL w' 4 1 A2 s.statN c2 (gT s s.statN)/\(∀a,A2=some a->w.heap.size<=a.block)/\Below w.heap.size w w':=by
 obtain⟨i0,hi0,hz0,hz1,hz2⟩:=info_parts Tryz.vinfoBool;have HM:=zh m;have hd0:=m.ok.deliver;have hn0:=m.ok.next;have HHAS:=zh (show ∀f V,Below w.heap.size w V->0<=f->f < 18446744073709551616->∃v,(Instr.lookup 87 (.map (some sb)) (.int .u64 f) true).run Tryz.prog V=.ok (.tuple #[v,.bool (stored s.L f)]) V from fun f V hb h0 h1=>⟨_,by rw[iq (m.below hb).st h0 h1,<-m.lv,gl]⟩);have HMD:=zh (d9 h w (m.hi 0));have HDC:=zh (show ∀V,Below w.heap.size w V->V.cell? ⟨h,41,none⟩=some (.int .u64 s.deliver)/\V.cell? ⟨h,43,none⟩=some (.map (some sb))from fun V hb=>⟨(m.below hb).cdeliver,(m.below hb).cs⟩);have c40:=m.cdeliver;obtain⟨d,hd⟩:=af s.deliver
 obtain⟨nx,hnx⟩:=af s.next
 obtain⟨N,hN⟩:=af s.statN
 rw[<-hd]at hd0 c40 HDC ⊢;rw[<-hnx]at hd0 hn0;have HC:=zh (show ∀V,Below w.heap.size w V->V.cell? ⟨h,42,none⟩=some (.int .u64 nx)from fun V hb=>by rw[hnx];exact(m.below hb).cnext);have hNN:N=(nx-d-1).toNat:=by rw[hN,hnx,hd];rfl
 have HNN:=zh hNN;have HND:=zh (And.intro hd (And.intro hnx hN));have HB0:=zh (And.intro hd0 hn0);rw[<-hN];have wd:IntKind.u64.wrap (d+1)=d+1:=by simp[IntKind.wrap_u64];omega
 clear m hd hnx hN hNN;go_enter Tryz.func58,Tryz.ntmps58;go_wp2_with (go_at_call 29;refine HMD.out.mono ?_;rintro e w9 ⟨rfl,hw9⟩;subst hw9);go_loopw [4,5] (fun v3 v4 wr=>∃(k:Nat) (A2:Option Addr) (c2:Nat),k<=N/\v3=.slice A2 k c2/\v4=.int .u64 (d+1+(k:Int))/\SL wr 4 1 A2 k c2 (gT s k)/\(∀a,A2=some a->w.heap.size<=a.block)/\Below w.heap.size w wr) (fun v3 _ _=>N-qi v3)
 case atStart=>exact⟨0,none,0,Nat.zero_le _,rfl,by simp,SL.nil _ _ _,fun a ha=>(by cases ha),Below.refl _ _⟩
 case round=>
  obtain⟨k,A2,c2,hk,rfl,rfl,hs,hA,hB⟩:=hrel;have HS:=zh hs;have HA:=zh hA;have HB:=zh hB;have y42:=HC.out wr hB;have y43:=(HDC.out wr hB).2;have y41:=(HDC.out wr hB).1;obtain⟨q,hq⟩:=af (d+1+(k:Int))
  rw[<-hq];have HQ:=zh hq;have hk32:k<=4294967296:=by have:=HNN.out;have:=HB0.out;omega
  have wq:IntKind.u64.wrap (q+1)=q+1:=by have:=HB0.out;simp[IntKind.wrap_u64];omega
  obtain⟨lv,hlk⟩:=HHAS.out q wr hB (by have:=HB0.out;have:=HQ.out;omega) (by have:=HB0.out;have:=HQ.out;have:=HNN.out;omega);obtain⟨b,hb⟩:=af (stored s.L q)
  rw[<-hb]at hlk;have HBB:=zh hb;clear hs hA hB hq hb;by_cases hlt:q < nx
  ·have hkN:k < N:=by have:=HNN.out;have:=HB0.out;have:=HQ.out;omega
   go_wp2_with (first
    | fail
    | (refine bS rfl _ _ 60 60 rfl _ 4 i0 (.bool false) 1 1 Tryz.underlying60 hi0 hz0 hz1 hz2 rfl A2 k c2 (gT s k) rfl (HS.out.next (bU _)) (.slice (some ⟨wr.heap.size,0,none⟩) 1 1) rfl 1 [.bool b] (xI wr b) (by omega) (by unfold maxLen;omega) (by omega) ?_;intro A6 c6 V6 hs6 hk6 ha6;have HS6:=zh hs6;have HK6:=zh hk6;have HA6:=zh ha6;clear hs6 hk6 ha6))
   have hbA:Below wr.heap.size wr (wr.alloc (.cells #[.bool b] 4)):=bU _;have hB6:Below w.heap.size w V6:=aa.below (HB.out.trans (hbA.mono HB.out.size)) HK6.out (fun q ⟨a,ha,e⟩=>by rw[e];exact HA.out a ha) (a9 HB.out.size hbA.size);have HB6:=zh hB6;have HAA:=zh (show ∀a,A6=some a->w.heap.size<=a.block from fun a ha=>by
    rcases HA6.out a ha with ⟨a',e,h1⟩ | h1
    ·rw[h1];exact HA.out a' e
    ·exact a9 (a9 HB.out.size hbA.size) h1)
   have hS7:SL V6 4 1 A6 (k+1) c6 (gT s (k+1)):=by
    rw[sc,<-HND.out.1,<-HQ.out,<-HBB.out]
    exact HS6.out
   have HS7:=zh hS7;clear hbA hB6 hS7;go_roundw
   case rel=>exact⟨k+1,A6,c6,hkN,rfl,by rw[HQ.out];push_cast;rw[Int.add_assoc],HS7.out,HAA.out,HB6.out⟩
   case measure=>simp only[qi];omega
  ·have hkN:k=N:=by have:=HNN.out;have:=HB0.out;have:=HQ.out;omega
   have HKN:=zh hkN;clear hkN hk;go_wp2;go_ret2;refine⟨A2,c2,by rw[<-HKN.out];rfl,by rw[<-HKN.out];exact HS.out,HA.out,HB.out⟩
theorem fH (g:Nat) (s:RS) (W R:Nat->Prop) (sb:Nat) (l:List SE) (ub eb:Nat) (w:World) (h:aN w g s W R sb l ub eb):Calls Tryz.prog 11 #[.pointer (some ⟨g,0,none⟩)] w fun e w'=>e=.returned (.tuple #[.agg s.C.arr,.int .i64 0])/\Below w.heap.size w w':=by
 have HN:=zh (fun W hW=>d9 g W hW);have HRG:=zh (show ∀V,Below w.heap.size w V->V.rangeAt g 0 s.C.arr.toList from fun V hV j v hv=>by
  have hj:j < 39:=by have:=(List.getElem?_eq_some_iff.1 hv).1;rw[Array.length_toList,s.C.arr_size]at this;exact this
  rw[Nat.zero_add,(h.below hV).cC hj,<-hv,Array.getElem?_toList,s.C.arr_at hj])
 have H39:=zh (show ∀V,Below w.heap.size w V->V.cell? ⟨g,39,none⟩=some (.bool true)from fun V hV=>(h.below hV).hi 0);have HS:Hid ((Tryz.prog.info? 25).map (·.size)=some s.C.arr.size):=zh (by rw[s.C.arr_size];exact aS);have HSL:Hid ((Tryz.prog.info? 25).map (·.size)=some s.C.arr.toList.length):=zh (by rw[Array.length_toList,s.C.arr_size];exact aS);have HO:=zh s.C.arr_one;have HSZ:=zh s.C.arr_size;obtain⟨Z,hZ⟩:=af s.C.arr
 rw[<-hZ]at HRG HS HSL HO HSZ ⊢;clear h hZ;go_enter Tryz.func11,Tryz.ntmps11;go_wp2_with (first
  | (go_at_call 29;refine(HN.out _ (H39.out _ ((Below.refl _ w).alloc ay _))).mono ?_;rintro e w1 ⟨rfl,rfl⟩)
  | (refine wpList_load_mid rfl 25 _ rfl g 0 rfl Z.toList _ (HRG.out _ ((Below.refl _ w).alloc ay _)) Tryz.underlying25 rfl HSL.out ?_)
  | (refine wpList_store_row rfl _ _ _ rfl w.heap.size Z rfl rfl 25 _ (ae.new w _ _) HS.out (by rw[HSZ.out];rfl) HO.out ?_))
 refine bodyPost_ret (v:=.tuple #[.agg Z,.int .i64 0]) (bj (g:=w.heap.size) (t:=25) (fr:=(0,0)) Tryz.results11 _ _ Z _ rfl (ae.setRow (ae.new w _ _)) Tryz.underlying25 rfl HS.out _ rfl) rfl ⟨rfl,al ((Below.refl _ w).alloc ay _) ay _⟩
theorem pQ (g:Nat) (s:RS) (W R:Nat->Prop) (sb:Nat) (l:List SE) (ub eb:Nat) (w:World) (h:aN w g s W R sb l ub eb) (U:List (Nat->Int)) (hU:s.used=U.map aj) (f:Nat->Int):Calls Tryz.prog 32 #[.pointer (some ⟨g,0,none⟩),.agg (aj f)] w fun e w'=>e=.returned (.bool (!de f U))/\Below w.heap.size w w':=by
 have HSK:=zh (cU f);have HUK:=zh Tryz.underlying23;obtain⟨q,hq⟩:=af (de f U)
 have hlk:∀V,Below w.heap.size w V->(Instr.lookup 75 (.map (some ub)) (.agg (aj f)) false).run Tryz.prog V=.ok (.bool q) V:=fun V hb=>by rw[hq];exact iI V ub U f (by rw[<-hU];exact(h.below hb).u)
 have hmd:∀V,Below w.heap.size w V->Calls Tryz.prog 29 #[.pointer (some ⟨g,0,none⟩)] V fun e w'=>e=.returned (.bool false)/\V=w':=fun V hb=>d9 g V ((h.below hb).hi 0);have hc:∀V,Below w.heap.size w V->V.cell? ⟨g,47,none⟩=some (.map (some ub)):=fun V hb=>(h.below hb).cu;rw[<-hq];obtain⟨KF,hKF⟩:=af (aj f)
 rw[<-hKF]at HSK hlk ⊢;have HL0:=zh hlk;have HM0:=zh hmd;have HC0:=zh hc;clear h hU hq hKF hlk hmd hc;go_enter Tryz.func32,Tryz.ntmps32;go_upto_region 1 with (fail)
 obtain⟨kb,hkb⟩:=af w.heap.size
 refine ah (fun V=>ae V kb 23 KF/\Below w.heap.size w V) ⟨by rw[hkb];exact ae.new _ _ _,(Below.refl _ w).alloc ay _⟩ ?_;rintro W1 ⟨b1,b2⟩;have B1:=zh b1;have B2:=zh b2;rw[<-hkb];clear b1 b2 hkb;have HB:=zh (show ∀V,Below W1.heap.size W1 V->Below w.heap.size w V from fun V hV=>B2.out.trans (hV.mono B2.out.size));have HLK:=zh (fun V (hV:Below W1.heap.size W1 V)=>HL0.out V (HB.out V hV));have HMD:=zh (fun V (hV:Below W1.heap.size W1 V)=>HM0.out V (HB.out V hV));have HC:=zh (fun V (hV:Below W1.heap.size W1 V)=>HC0.out V (HB.out V hV));have HR2:=zh (show ∀V,Below W1.heap.size W1 V->V.rangeAt kb 0 KF.toList from fun V hV=>(B1.out.below hV B1.out.lt).range _ (by simp));refine wp_region_held_drew (S:=fun w'=>Below W1.heap.size W1 w') (by kernel_rfl) ((Below.refl _ W1).drew) (fun hHeld=>?_);obtain⟨w0,hw0⟩:=af W1.drew
 rw[<-hw0];rw[<-hw0]at hHeld;clear hw0;refine ba (i:=0) (x:=some 5) (v:=.pointer (some ⟨g,0,none⟩)) rfl ?_;refine aL (i:=1) (x:=some 6) rfl fun K hK=>?_;go_simp;refine(HMD.out w0 hHeld).mono ?_;rintro e w9 ⟨rfl,hw9⟩;subst hw9;dsimp only;refine hK.out _ _ hHeld (fun hHeld=>?_);clear hK K
 try simp only[Act.put,qa,qb,qc]
 refine az (i:=2) (x:=some 7) (v:=.bool true) rfl ?_;refine ba (i:=3) (x:=some 8) (v:=.bool true) rfl ?_;refine ba (i:=4) (x:=some 9) (v:=.pointer (some ⟨g,0,none⟩)) rfl ?_;refine az (i:=5) (x:=some 10) (v:=.pointer (some ⟨g,0,none⟩)) rfl ?_;refine az (i:=6) (x:=some 11) (v:=.pointer (some ⟨g,47,none⟩)) rfl ?_;refine bE (i:=7) (x:=some 12) (v:=.map (some ub)) rfl (.inl ⟨by rfl,fun W hW=>(by have:=HC.out W hW;go_simp)⟩) ?_;refine' bE (i:=8) (x:=some 13) (v:=_) rfl (yieldsIf_load_mid (by rfl) _ _ rfl kb 0 rfl KF.toList _ (fun w h=>HR2.out w h) HUK.out rfl HSK.out) ?_;refine bE (i:=9) (x:=some 14) (v:=.bool q) rfl (.inl ⟨by rfl,fun W hW=>(by have:=HLK.out W hW;go_simp)⟩) ?_;refine az (i:=10) (x:=some 15) (v:=.bool (!q)) rfl ?_;refine az (i:=11) (x:=some 16) (v:=.bool (!q)) rfl ?_;refine ba (i:=12) (x:=some 4) (v:=.bool (!q)) rfl ?_;refine wpAnyH_done (by kernel_rfl) ?_ _;have HBE:=zh (HB.out _ hHeld);clear hHeld;go_wp2;go_ret
 exact⟨rfl,HBE.out⟩
theorem fv {P:Program} {ops:Array Oper} {rest:List Oper} {op:Oper} {a:Act} {w:World} {Q:Exit->Act->World->Prop} (hw:Region.wanted op (yielded ops a.tmps)=true) (ty:TypeId) (x:Operand) (ho:op.op=.load ty x)
  (b o:Nat) (hx:a.eval x=.pointer (some ⟨b,o,none⟩)) (cs:List Value) (d:TypeDesc) (hc:w.rangeAt b o cs)
  (hu:P.underlying ty=some d) (hd:d.isRow=true) (hi:(P.info? ty).map (·.size)=some cs.length)
  (h:wpList P ops Q rest (a.put op.dst (.agg cs.toArray)) w):wpList P ops Q (op :: rest) a w:=
 wpList_step fun K hK=>by rw[if_pos hw];exact wp_load_mid ty x ho b o hx cs d hc hu hd hi (hK _ _ h)
def ao (g h:Nat):Array Value:=#[.pointer (some ⟨g,0,none⟩),.pointer (some ⟨h,0,none⟩)]
theorem sw (g h:Nat) (s:TS) (r:RS) (W R W2 R2:Nat->Prop) (sb:Nat) (l:List SE) (ub ek:Nat) (w:World) (ht:eS w g s W R) (hr:aN w h r W2 R2 sb l ub ek) :
  Calls Tryz.prog 30 #[.agg (ao g h)] w fun e w'=>e=.returned (.bool false)/\Below w.heap.size w w':=by
 have HT:=zh (fun(V:World) (hb:Below w.heap.size w V)=>g9 g s W R V (ht.below hb));have HR:=zh (fun(V:World) (hb:Below w.heap.size w V)=>fH h r W2 R2 sb l ub ek V (hr.below hb));have HO:Hid (s.C.arr.all (·.oneCell')=true):=zh s.C.arr_one;have HSZ:Hid ((Tryz.prog.info? 25).map (·.size)=some s.C.arr.size):=zh (by rw[s.C.arr_size];exact aS);have HZZ:Hid (lZ.size=s.C.arr.size):=zh (by rw[s.C.arr_size];rfl);have HO2:Hid (r.C.arr.all (·.oneCell')=true):=zh r.C.arr_one;have HSZ2:Hid ((Tryz.prog.info? 25).map (·.size)=some r.C.arr.size):=zh (by rw[r.C.arr_size];exact aS);have HZZ2:Hid (lZ.size=r.C.arr.size):=zh (by rw[r.C.arr_size];rfl);obtain⟨CA,hCA⟩:=af s.C.arr
 rw[<-hCA]at HT HO HSZ HZZ;obtain⟨CB,hCB⟩:=af r.C.arr
 rw[<-hCB]at HR HO2 HSZ2 HZZ2;clear hCA hCB ht hr;unfold ao;go_enter Tryz.func30,Tryz.ntmps30;go_upto_region 1 with (fail)
 obtain⟨kb,hkb⟩:=af w.heap.size
 refine ah (fun V=>ae V kb 34 (ao g h)/\Below w.heap.size w V) ⟨by rw[hkb];exact ae.new _ _ _,(Below.refl _ w).alloc ay _⟩ ?_;rintro V ⟨b1,b2⟩;rw[<-hkb];have HB:=zh b1;have HV:=zh b2;have c0:V.cell? ⟨kb,0,none⟩=some (.pointer (some ⟨g,0,none⟩)):=b1.cell 0;clear b1 b2 hkb;go_upto_region 2 with (first
  | (go_at_call 10;refine(HT.out _ HV.out).mono ?_;rintro e w1 ⟨rfl,hB⟩;have B1:=zh hB;clear hB)
  | (refine wpList_store_row rfl _ _ _ rfl w1.heap.size CA rfl rfl 25 lZ (ae.new w1 _ _) HSZ.out HZZ.out HO.out ?_))
 refine ah (fun V2=>Below V.heap.size V V2) (B1.out.trans ((al ((Below.refl _ w1).alloc ay _) ay _).mono B1.out.size)) ?_;intro V2 hX;have c1:V2.cell? ⟨kb,1,none⟩=some (.pointer (some ⟨h,0,none⟩)):=(HB.out.below hX HB.out.lt).cell 1;have X2:=zh (HV.out.trans (hX.mono HV.out.size));clear hX c0;go_upto_region 3 with (first
  | (go_at_call 11;refine(HR.out _ X2.out).mono ?_;rintro e w3 ⟨rfl,hB⟩;have B3:=zh hB;clear hB)
  | (refine wpList_store_row rfl _ _ _ rfl w3.heap.size CB rfl rfl 25 lZ (ae.new w3 _ _) HSZ2.out HZZ2.out HO2.out ?_))
 refine ah (fun V3=>Below V2.heap.size V2 V3) (B3.out.trans ((al ((Below.refl _ w3).alloc ay _) ay _).mono B3.out.size)) ?_;intro V3 hX;have X3:=zh (X2.out.trans (hX.mono X2.out.size));clear hX c1;go_wp2;go_ret
 exact⟨rfl,X3.out⟩
theorem Be (g h:Nat) (KT KR:Array Value) (f c f2 c2:Nat->Int) (hk0:∀j,j < 16->KT[j]? = some (.int .u8 (f j))) (hk1:∀j,j < 16->KT[16+j]? = some (.int .u8 (c j))) (hk2:∀j,j < 16->KR[j]? = some (.int .u8 (f2 j))) (hk3:∀j,j < 16->KR[16+j]? = some (.int .u8 (c2 j))) (w:World)
  (HN:∀V,Below w.heap.size w V->Calls Tryz.prog 30 #[.agg (ao g h)] V fun e w'=>e=.returned (.bool false)/\Below V.heap.size V w')
  (H1:∀V,Below w.heap.size w V->Calls Tryz.prog 31 #[.pointer (some ⟨g,0,none⟩),.agg (aj f)] V fun e w'=>e=.returned (.bool false)/\Below V.heap.size V w') :
  Calls Tryz.prog 13 #[.agg (ao g h),.agg KT,.agg KR] w fun e w'=>e=.returned (.int .i64 461)/\Below w.heap.size w w':=by
 have HUK:=zh Tryz.underlying23;have HNO:=zh HN;have HF1:=zh H1;have HA0:=zh hk0;have HA1:=zh hk1;have HA2:=zh hk2;have HA3:=zh hk3;have HS0:=zh (cU f);have HS1:=zh (cU c);have HS2:=zh (cU f2);have HS3:=zh (cU c2);clear HN H1 hk0 hk1 hk2 hk3;obtain⟨K0,hK0⟩:∃K,K=aj f:=⟨_,rfl⟩
 rw[<-hK0]at HS0 HF1;have HK0:=zh hK0;clear hK0;obtain⟨K1,hK1⟩:∃K,K=aj c:=⟨_,rfl⟩
 rw[<-hK1]at HS1;have HK1:=zh hK1;clear hK1;obtain⟨K2,hK2⟩:∃K,K=aj f2:=⟨_,rfl⟩
 rw[<-hK2]at HS2;have HK2:=zh hK2;clear hK2;obtain⟨K3,hK3⟩:∃K,K=aj c2:=⟨_,rfl⟩
 rw[<-hK3]at HS3;have HK3:=zh hK3;clear hK3;go_enter Tryz.func13,Tryz.ntmps13;go_upto_region 1 with (fail)
 obtain⟨kb,hkb⟩:=af w.heap.size
 have HKB:=zh hkb;refine ah (fun V=>ae V kb 34 (ao g h)/\ae V (kb+1) 46 KT/\ae V (kb+1+1) 46 KR/\Below w.heap.size w V) ⟨by rw[hkb];exact((aI _ _ _ _ rfl).alloc _).alloc _,by rw[hkb];exact(aI _ _ _ _ (by simp)).alloc _,by rw[hkb];exact aI _ _ _ _ (by simp),(((Below.refl _ w).alloc ay _).alloc (by simp) _).alloc (by simp;omega) _⟩ ?_;rintro V ⟨b1,b2,b3,b4⟩;rw[<-hkb];have HB:=zh b1;have HB1:=zh b2;have HB2:=zh b3;have HV:=zh b4;have HRS:=zh (show V.rangeAt kb 0 (ao g h).toList from fun j y hy=>by rw[b1.cell,Nat.zero_add,<-hy,Array.getElem?_toList]);have HSS:=zh (show(Tryz.prog.info? 34).map (·.size)=some (ao g h).toList.length by kernel_rfl);have HUS:=zh Tryz.underlying34;clear b1 b2 b3 b4 hkb;obtain⟨SV2,hSV⟩:∃q,q=ao g h:=⟨_,rfl⟩
 have HSV:=zh hSV;rw[<-hSV]at HNO HRS HSS HB;clear hSV;go_upto_region 3 with (first
  | (refine wpList_load_mid rfl 34 _ rfl kb 0 rfl SV2.toList _ HRS.out HUS.out rfl HSS.out ?_)
  | (go_at_call 30;refine(HNO.out _ HV.out).mono ?_;rintro e w1 ⟨rfl,hB⟩;have B1:=zh hB;clear hB))
 have hb0:=HB.out.below B1.out HB.out.lt;rw[HSV.out]at hb0;have hb1:=HB1.out.below B1.out HB1.out.lt;have hb2:=HB2.out.below B1.out HB2.out.lt;have X1:=zh (HV.out.trans (B1.out.mono HV.out.size));have c0:w1.cell? ⟨kb,0,none⟩=some (.pointer (some ⟨g,0,none⟩)):=hb0.cell 0;have HC0:=zh hb0;have HC1:=zh hb1;have HC2:=zh hb2;have HG0:=zh (show w1.rangeAt (kb+1) 0 K0.toList from fun j y hy=>by
  have hj:j < 16:=by have:=(List.getElem?_eq_some_iff.1 hy).1;rw[HK0.out]at this;exact this
  rw[hb1.cell,Nat.zero_add,HA0.out j hj,<-hy,Array.getElem?_toList,HK0.out,bB _ j hj])
 clear hb0 hb1 hb2;go_wp2_with (first
  | (refine wpList_load_mid rfl _ _ rfl (kb+1) 0 rfl K0.toList _ HG0.out HUK.out rfl HS0.out ?_)
  | (go_at_call 31;refine(HF1.out _ X1.out).mono ?_;rintro e w2 ⟨rfl,hB⟩;have X2:=zh (X1.out.trans (hB.mono X1.out.size));have hc0:=HC0.out.below hB HC0.out.lt;have hc2:=HC2.out.below hB HC2.out.lt;have D0:=zh hc0;have D1:=zh (HC1.out.below hB HC1.out.lt);have D2:=zh hc2;have c1:w2.cell? ⟨kb,1,none⟩=some (.pointer (some ⟨h,0,none⟩)):=hc0.cell 1;have HG2:=zh (show w2.rangeAt (kb+1+1) 0 K2.toList from fun j y hy=>(by
  have hj:j < 16:=by have:=(List.getElem?_eq_some_iff.1 hy).1;rw[HK2.out]at this;exact this
  rw[hc2.cell,Nat.zero_add,HA2.out j hj,<-hy,Array.getElem?_toList,HK2.out,bB _ j hj]));clear hB hc0 hc2 c0))
 go_ret
 exact⟨rfl,X2.out⟩
theorem sW (g h:Nat) (KT KR:Array Value) (f c f2 c2:Nat->Int) (hk0:∀j,j < 16->KT[j]? = some (.int .u8 (f j))) (hk1:∀j,j < 16->KT[16+j]? = some (.int .u8 (c j))) (hk2:∀j,j < 16->KR[j]? = some (.int .u8 (f2 j))) (hk3:∀j,j < 16->KR[16+j]? = some (.int .u8 (c2 j))) (w:World)
  (HN:∀V,Below w.heap.size w V->Calls Tryz.prog 30 #[.agg (ao g h)] V fun e w'=>e=.returned (.bool false)/\Below V.heap.size V w')
  (H1:∀V,Below w.heap.size w V->Calls Tryz.prog 31 #[.pointer (some ⟨g,0,none⟩),.agg (aj f)] V fun e w'=>e=.returned (.bool true)/\Below V.heap.size V w')
  (H2:∀V,Below w.heap.size w V->Calls Tryz.prog 32 #[.pointer (some ⟨h,0,none⟩),.agg (aj f2)] V fun e w'=>e=.returned (.bool true)/\Below V.heap.size V w')
  {P Q:World->Prop} (H3:∀V,Below w.heap.size w V->Calls Tryz.prog 33 #[.pointer (some ⟨g,0,none⟩),.agg (aj f),.agg (aj c)] V fun e w'=>e=.returned (.int .i64 0)/\P w'/\aa (fun k=>k < w.heap.size) V w')
  (H4:∀V,P V->Calls Tryz.prog 34 #[.pointer (some ⟨h,0,none⟩),.agg (aj f2),.agg (aj c2)] V fun e w'=>e=.returned (.int .i64 0)/\Q w') :
  Calls Tryz.prog 13 #[.agg (ao g h),.agg KT,.agg KR] w fun e w'=>e=.returned (.int .i64 0)/\Q w':=by
 have HUK:=zh Tryz.underlying23;have HNO:=zh HN;have HF1:=zh H1;have HF2:=zh H2;have HR3:=zh H3;have HR4:=zh H4;have HA0:=zh hk0;have HA1:=zh hk1;have HA2:=zh hk2;have HA3:=zh hk3;have HS0:=zh (cU f);have HS1:=zh (cU c);have HS2:=zh (cU f2);have HS3:=zh (cU c2);clear HN H1 H2 hk0 hk1 hk2 hk3 H3 H4;obtain⟨K0,hK0⟩:∃K,K=aj f:=⟨_,rfl⟩
 rw[<-hK0]at HS0 HF1 HR3;have HK0:=zh hK0;clear hK0;obtain⟨K1,hK1⟩:∃K,K=aj c:=⟨_,rfl⟩
 rw[<-hK1]at HS1 HR3;have HK1:=zh hK1;clear hK1;obtain⟨K2,hK2⟩:∃K,K=aj f2:=⟨_,rfl⟩
 rw[<-hK2]at HS2 HF2 HR4;have HK2:=zh hK2;clear hK2;obtain⟨K3,hK3⟩:∃K,K=aj c2:=⟨_,rfl⟩
 rw[<-hK3]at HS3 HR4;have HK3:=zh hK3;clear hK3;go_enter Tryz.func13,Tryz.ntmps13;go_upto_region 1 with (fail)
 obtain⟨kb,hkb⟩:=af w.heap.size
 have HKB:=zh hkb;refine ah (fun V=>ae V kb 34 (ao g h)/\ae V (kb+1) 46 KT/\ae V (kb+1+1) 46 KR/\Below w.heap.size w V) ⟨by rw[hkb];exact((aI _ _ _ _ rfl).alloc _).alloc _,by rw[hkb];exact(aI _ _ _ _ (by simp)).alloc _,by rw[hkb];exact aI _ _ _ _ (by simp),(((Below.refl _ w).alloc ay _).alloc (by simp) _).alloc (by simp;omega) _⟩ ?_;rintro V ⟨b1,b2,b3,b4⟩;rw[<-hkb];have HB:=zh b1;have HB1:=zh b2;have HB2:=zh b3;have HV:=zh b4;have HRS:=zh (show V.rangeAt kb 0 (ao g h).toList from fun j y hy=>by rw[b1.cell,Nat.zero_add,<-hy,Array.getElem?_toList]);have HSS:=zh (show(Tryz.prog.info? 34).map (·.size)=some (ao g h).toList.length by kernel_rfl);have HUS:=zh Tryz.underlying34;clear b1 b2 b3 b4 hkb;obtain⟨SV2,hSV⟩:∃q,q=ao g h:=⟨_,rfl⟩
 have HSV:=zh hSV;rw[<-hSV]at HNO HRS HSS HB;clear hSV;go_upto_region 3 with (first
  | (refine wpList_load_mid rfl 34 _ rfl kb 0 rfl SV2.toList _ HRS.out HUS.out rfl HSS.out ?_)
  | (go_at_call 30;refine(HNO.out _ HV.out).mono ?_;rintro e w1 ⟨rfl,hB⟩;have B1:=zh hB;clear hB))
 have hb0:=HB.out.below B1.out HB.out.lt;rw[HSV.out]at hb0;have hb1:=HB1.out.below B1.out HB1.out.lt;have hb2:=HB2.out.below B1.out HB2.out.lt;have X1:=zh (HV.out.trans (B1.out.mono HV.out.size));have c0:w1.cell? ⟨kb,0,none⟩=some (.pointer (some ⟨g,0,none⟩)):=hb0.cell 0;have HC0:=zh hb0;have HC1:=zh hb1;have HC2:=zh hb2;have HG0:=zh (show w1.rangeAt (kb+1) 0 K0.toList from fun j y hy=>by
  have hj:j < 16:=by have:=(List.getElem?_eq_some_iff.1 hy).1;rw[HK0.out]at this;exact this
  rw[hb1.cell,Nat.zero_add,HA0.out j hj,<-hy,Array.getElem?_toList,HK0.out,bB _ j hj])
 clear hb0 hb1 hb2;go_upto_region 5 with (first
  | (refine wpList_load_mid rfl _ _ rfl (kb+1) 0 rfl K0.toList _ HG0.out HUK.out rfl HS0.out ?_)
  | (go_at_call 31;refine(HF1.out _ X1.out).mono ?_;rintro e w2 ⟨rfl,hB⟩;have X2:=zh (X1.out.trans (hB.mono X1.out.size));have hc0:=HC0.out.below hB HC0.out.lt;have hc2:=HC2.out.below hB HC2.out.lt;have D0:=zh hc0;have D1:=zh (HC1.out.below hB HC1.out.lt);have D2:=zh hc2;have c1:w2.cell? ⟨kb,1,none⟩=some (.pointer (some ⟨h,0,none⟩)):=hc0.cell 1;have HG2:=zh (show w2.rangeAt (kb+1+1) 0 K2.toList from fun j y hy=>(by
  have hj:j < 16:=by have:=(List.getElem?_eq_some_iff.1 hy).1;rw[HK2.out]at this;exact this
  rw[hc2.cell,Nat.zero_add,HA2.out j hj,<-hy,Array.getElem?_toList,HK2.out,bB _ j hj]));clear hB hc0 hc2 c0)
  | (refine fv rfl _ _ rfl (kb+1+1) 0 rfl K2.toList _ HG2.out HUK.out rfl HS2.out ?_)
  | (go_at_call 32;refine(HF2.out _ X2.out).mono ?_;rintro e w3 ⟨rfl,hB⟩;have X3:=zh (X2.out.trans (hB.mono X2.out.size));have B3:=zh hB;clear hB c1))
 have hc0:=D0.out.below B3.out D0.out.lt;have hc1:=D1.out.below B3.out D1.out.lt;have hc2:=D2.out.below B3.out D2.out.lt;have c0:w3.cell? ⟨kb,0,none⟩=some (.pointer (some ⟨g,0,none⟩)):=hc0.cell 0;have E0:=zh (show w3.rangeAt (kb+1) 0 K0.toList from fun j y hy=>by
  have hj:j < 16:=by have:=(List.getElem?_eq_some_iff.1 hy).1;rw[HK0.out]at this;exact this
  rw[hc1.cell,Nat.zero_add,HA0.out j hj,<-hy,Array.getElem?_toList,HK0.out,bB _ j hj])
 have E1:=zh (show w3.rangeAt (kb+1) 16 K1.toList from fun j y hy=>by
  have hj:j < 16:=by have:=(List.getElem?_eq_some_iff.1 hy).1;rw[HK1.out]at this;exact this
  rw[hc1.cell,HA1.out j hj,<-hy,Array.getElem?_toList,HK1.out,bB _ j hj])
 have G0:=zh hc0;have G2:=zh hc2;clear hc0 hc1 hc2;go_upto_region 6 with (first
  | (refine wpList_load_mid rfl _ _ rfl (kb+1) 0 rfl K0.toList _ E0.out HUK.out rfl HS0.out ?_)
  | (refine wpList_load_mid rfl _ _ rfl (kb+1) 16 rfl K1.toList _ E1.out HUK.out rfl HS1.out ?_)
  | (go_at_call 33;refine(HR3.out _ X3.out).mono ?_;rintro e w4 ⟨rfl,hP,hK⟩;have HP:=zh hP;have HKK:=zh hK;clear hP hK c0))
 have hc0:=HKK.out.blk G0.out (by have:=HKB.out;omega);have hc2:=HKK.out.blk G2.out (by have:=HKB.out;omega);have c1:w4.cell? ⟨kb,1,none⟩=some (.pointer (some ⟨h,0,none⟩)):=hc0.cell 1;have E2:=zh (show w4.rangeAt (kb+1+1) 0 K2.toList from fun j y hy=>by
  have hj:j < 16:=by have:=(List.getElem?_eq_some_iff.1 hy).1;rw[HK2.out]at this;exact this
  rw[hc2.cell,Nat.zero_add,HA2.out j hj,<-hy,Array.getElem?_toList,HK2.out,bB _ j hj])
 have E3:=zh (show w4.rangeAt (kb+1+1) 16 K3.toList from fun j y hy=>by
  have hj:j < 16:=by have:=(List.getElem?_eq_some_iff.1 hy).1;rw[HK3.out]at this;exact this
  rw[hc2.cell,HA3.out j hj,<-hy,Array.getElem?_toList,HK3.out,bB _ j hj])
 clear hc0 hc2;go_wp2_with (first
  | (refine wpList_load_mid rfl _ _ rfl (kb+1+1) 0 rfl K2.toList _ E2.out HUK.out rfl HS2.out ?_)
  | (refine wpList_load_mid rfl _ _ rfl (kb+1+1) 16 rfl K3.toList _ E3.out HUK.out rfl HS3.out ?_)
  | (go_at_call 34;refine(HR4.out _ HP.out).mono ?_;rintro e w5 ⟨rfl,hQ⟩;have HQ:=zh hQ;clear hQ c1))
 go_ret
 exact⟨rfl,HQ.out⟩
def cP (B:Nat) (w:World) (g h:Nat) (s:TS) (r:RS):Prop:=
 ∃W R W2 R2 sb l ub eb,eS w g s W R/\aN w h r W2 R2 sb l ub eb/\(∀k,W k\/R k->B<=k)/\(∀k,W2 k\/R2 k->B<=k)/\∀k,W k\/R k->¬(W2 k\/R2 k)
theorem cP.keep {B:Nat} {w w':World} {g h:Nat} {s:TS} {r:RS} {F:Nat->Prop} (h1:cP B w g h s r) (hk:aa F w w') (hF:∀k,F k->k < B):cP B w' g h s r:=by
 obtain⟨W,R,W2,R2,sb,l,ub,eb,t,m,h3,h4,h5⟩:=h1
 exact⟨W,R,W2,R2,sb,l,ub,eb,t.keepF hk (fun k hf=>⟨fun hw=>by have:=h3 k (.inl hw);have:=hF k hf;omega,fun hw=>by have:=h3 k (.inr hw);have:=hF k hf;omega⟩),m.keepF hk (fun k hf=>⟨fun hw=>by have:=h4 k (.inl hw);have:=hF k hf;omega,fun hw=>by have:=h4 k (.inr hw);have:=hF k hf;omega⟩),h3,h4,h5⟩
theorem cP.mono {B B':Nat} {w:World} {g h:Nat} {s:TS} {r:RS} (h1:cP B w g h s r) (hB:B'<=B):cP B' w g h s r:=by
 obtain⟨W,R,W2,R2,sb,l,ub,eb,t,m,h3,h4,h5⟩:=h1
 exact⟨W,R,W2,R2,sb,l,ub,eb,t,m,fun k hk=>a9 hB (h3 k hk),fun k hk=>a9 hB (h4 k hk),h5⟩
theorem aW (g h:Nat):(Tryz.prog.info? 34).map (·.size)=some (ao g h).size:=by kernel_rfl
theorem cv (g h:Nat):(ao g h).all (·.oneCell')=true:=by kernel_rfl
theorem xz (ac:Bool):AJ ac 0 false 0 (fun _=>0) (fun _=>0) 0 (fun _=>0):=
 ⟨fun h=>(by cases h),fun h=>(by omega),fun k h=>(by omega),fun h=>(by omega),fun k h=>(by omega)⟩
def sB (s:TS) (w:World) (e:Ending) (w':World):Prop:=∃g W R,e=.returned (.tuple #[.pointer (some ⟨g,0,none⟩),.int .i64 0])/\eS w' g s W R/\(∀k,W k->w.heap.size<=k)/\(∀k,R k->w.heap.size<=k)/\Below w.heap.size w w'
theorem mB (cf cf2:ax) (FA SA:Array Value) (hfs:FA.size=4) (hss:SA.size=3) (s:TS) (d nx:Int) (L:List SV) (w:World)
  (H3:∀V,Below w.heap.size w V->Calls Tryz.prog 63 #[.agg cf.arr,.agg FA] V (sB s V))
  (H4:∀V,Below w.heap.size w V->Calls Tryz.prog 64 #[.agg cf2.arr,.agg SA] V (mP cf2 d nx L V)) :
  Calls Tryz.prog 42 #[.agg cf.arr,.agg cf2.arr,.agg FA,.agg SA] w fun e w'=>∃g h X,e=.returned (.tuple #[.agg (ao g h),.int .i64 0])/\cP w.heap.size w' g h s (dU cf2 X d nx L)/\Below w.heap.size w w':=by
 have HT:=zh H3;have HR:=zh H4;have HSA:Hid ((Tryz.prog.info? 25).map (·.size)=some cf.arr.toList.length):=zh (by rw[Array.length_toList,cf.arr_size];exact aS);have HSB:Hid ((Tryz.prog.info? 25).map (·.size)=some cf2.arr.toList.length):=zh (by rw[Array.length_toList,cf2.arr_size];exact aS);have HSF:Hid ((Tryz.prog.info? 108).map (·.size)=some FA.toList.length):=zh (by rw[Array.length_toList,hfs];kernel_rfl);have HSS:Hid ((Tryz.prog.info? 110).map (·.size)=some SA.toList.length):=zh (by rw[Array.length_toList,hss];kernel_rfl);have HUC:=zh Tryz.underlying25;have HUF:=zh Tryz.underlying108;have HUS:=zh Tryz.underlying110;obtain⟨CA,hCA⟩:=af cf.arr
 obtain⟨CB,hCB⟩:=af cf2.arr
 rw[<-hCA]at HT HSA ⊢;rw[<-hCB]at HR HSB ⊢;clear hCA hCB H3 H4 hfs hss;go_enter Tryz.func42,Tryz.ntmps42;go_upto_region 1 with (fail)
 obtain⟨kb,hkb⟩:=af w.heap.size
 have HKB:=zh hkb;refine ah (fun V=>ae V kb 25 CA/\ae V (kb+1) 25 CB/\ae V (kb+1+1) 108 FA/\ae V (kb+1+1+1) 110 SA/\ae V (kb+1+1+1+1) 34 #[.pointer none,.pointer none]/\Below w.heap.size w V/\w.heap.size+5<=V.heap.size) ⟨by rw[hkb];exact((((aI _ _ _ _ rfl).alloc _).alloc _).alloc _).alloc _,by rw[hkb];exact(((aI _ _ _ _ (by simp)).alloc _).alloc _).alloc _,by rw[hkb];exact((aI _ _ _ _ (by simp)).alloc _).alloc _,by rw[hkb];exact(aI _ _ _ _ (by simp)).alloc _,by rw[hkb];exact aI _ _ _ _ (by simp),(((((Below.refl _ w).alloc ay _).alloc (by simp) _).alloc (by simp;omega) _).alloc (by simp;omega) _).alloc (by simp;omega) _,by simp⟩ ?_;rintro V ⟨b0,b1,b2,b3,b4,b5,b6⟩;rw[<-hkb];have HB0:=zh b0;have HB1:=zh b1;have HB2:=zh b2;have HB3:=zh b3;have HB4:=zh b4;have HV:=zh b5;have HVS:=zh b6;have R0:=zh (show V.rangeAt kb 0 CA.toList from fun j y hy=>by rw[b0.cell,Nat.zero_add,<-hy,Array.getElem?_toList]);have R2:=zh (show V.rangeAt (kb+1+1) 0 FA.toList from fun j y hy=>by rw[b2.cell,Nat.zero_add,<-hy,Array.getElem?_toList]);clear b0 b1 b2 b3 b4 b5 b6 hkb;go_upto_region 4 with (first
  | (refine wpList_load_mid rfl 25 _ rfl kb 0 rfl CA.toList _ R0.out HUC.out rfl HSA.out ?_)
  | (refine wpList_load_mid rfl 108 _ rfl (kb+1+1) 0 rfl FA.toList _ R2.out HUF.out rfl HSF.out ?_)
  | (go_at_call 63;refine(HT.out _ HV.out).mono ?_;rintro e w1 ⟨g,W,R,rfl,t1,t2,t3,hb⟩;have T1:=zh (And.intro t1 (And.intro t2 t3));have B1:=zh hb;clear t1 t2 t3 hb))
 have c1:=HB1.out.below B1.out HB1.out.lt;have c3:=HB3.out.below B1.out HB3.out.lt;have c4:=HB4.out.below B1.out HB4.out.lt;have HC4:=zh c4;have X1:=zh (HV.out.trans (B1.out.mono HV.out.size));have R1:=zh (show w1.rangeAt (kb+1) 0 CB.toList from fun j y hy=>by rw[c1.cell,Nat.zero_add,<-hy,Array.getElem?_toList]);have R3:=zh (show w1.rangeAt (kb+1+1+1) 0 SA.toList from fun j y hy=>by rw[c3.cell,Nat.zero_add,<-hy,Array.getElem?_toList]);clear c1 c3 c4;go_upto_region 7 with (first
  | (refine wpList_load_mid rfl 25 _ rfl (kb+1) 0 rfl CB.toList _ R1.out HUC.out rfl HSB.out ?_)
  | (refine wpList_load_mid rfl 110 _ rfl (kb+1+1+1) 0 rfl SA.toList _ R3.out HUS.out rfl HSS.out ?_)
  | (go_at_call 64;refine(HR.out _ X1.out).mono ?_;rintro e w2 ⟨h,mS,mU,eb,X,l,R2',rfl,t1,t2,t3,t4,t5,t6,hb⟩;have T2:=zh (And.intro t1 (And.intro t2 (And.intro t3 (And.intro t4 (And.intro t5 t6)))));have B2:=zh hb;clear t1 t2 t3 t4 t5 t6 hb))
 have hc4:=HC4.out.below B2.out HC4.out.lt;have f0:=hc4.frozen 0;have f1:=hc4.frozen 1;have hSR:cP (w.heap.size+5) w2 g h s (dU cf2 X d nx L):=by
  obtain⟨q1,q2,q3,q4,q5,q6⟩:=T2.out;have hs:=HVS.out;have hs2:=B1.out.size
  exact⟨W,R,_,R2',mS,l,mU,eb,T1.out.1.below B2.out,q1,fun k hk=>by
   have:=hk.elim (T1.out.2.1 k) (T1.out.2.2 k);omega,fun k hk=>by
   rcases hk with (rfl | rfl | rfl | rfl) | hk
   ·omega
   ·omega
   ·omega
   ·omega
   ·have:=q6 k hk;omega,fun k hk hk2=>by
   have h1:k < w1.heap.size:=hk.elim (T1.out.1.winr.1 k) (T1.out.1.winr.2 k);rcases hk2 with (rfl | rfl | rfl | rfl) | hk2
   ·omega
   ·omega
   ·omega
   ·omega
   ·have:=q6 k hk2;omega⟩
 have HSR:=zh hSR;have HD4:=zh hc4;have X2:=zh (X1.out.trans (B2.out.mono X1.out.size));clear hSR hc4;go_wp2_with (refine wpList_store_row rfl _ _ _ rfl (kb+1+1+1+1) (ao g h) rfl rfl 34 _ HD4.out (aW g h) rfl (cv g h) ?_);have hB5:=ae.setRow (ds:=ao g h) HD4.out;have HK5:=aa.setRow (F:=fun k=>k=kb+1+1+1+1) (aa.of_below (Below.refl _ w2)) rfl (ao g h);refine bodyPost_ret (v:=.tuple #[.agg (ao g h),.int .i64 0]) (bj (g:=kb+1+1+1+1) (t:=34) (fr:=(0,0)) Tryz.results42 _ _ (ao g h) _ rfl hB5 Tryz.underlying34 rfl (aW g h) _ rfl) rfl ⟨g,h,X,rfl,(HSR.out.keep HK5 (fun k hk=>by have:=HKB.out;omega)).mono (by omega),al X2.out (by have:=HKB.out;omega) _⟩
theorem vT (cf:ax) (hv:cf.Valid) (w:World):Calls Tryz.prog 63 #[.agg cf.arr,.agg #[.int .u32 0,.bool false,.slice none 0 0,.slice none 0 0]] w (sB (gm cf) w):=
 jX cf none none 0 0 0 0 0 false (fun _=>0) (fun _=>none) (fun _=>0) (fun _=>0) (fun _ _=>0) (fun _=>none) (fun _=>0) (fun _=>0) (fun _ _=>0) w (by omega) (by omega) (by omega) ⟨fun h=>absurd rfl h,fun k h=>absurd h (by omega),fun k h=>absurd h (by omega),fun k h=>absurd h (by omega),fun k h=>absurd h (by omega),fun k h=>absurd h (by omega)⟩ ⟨fun h=>absurd rfl h,fun k h=>absurd h (by omega),fun k h=>absurd h (by omega),fun k h=>absurd h (by omega),fun k h=>absurd h (by omega)⟩ hv (xz _)
theorem vH (cf:ax) (hv:cf.Valid) (w:World):Calls Tryz.prog 64 #[.agg cf.arr,.agg #[.int .u64 0,.int .u64 0,.slice none 0 0]] w (mP cf 0 0 [] w):=
 jG cf w hv none 0 0 0 0 (fun _=>0) (fun _=>none) (fun _=>0) (fun _=>0) (fun _ _=>0) (by omega) (by unfold maxLen;omega) ⟨fun h=>absurd rfl h,fun k h=>absurd h (by omega),fun k h=>absurd h (by omega),fun k h=>absurd h (by omega),fun k h=>absurd h (by omega),fun k h=>absurd h (by omega)⟩ rR
theorem pE (cf cf2:ax) (h1:cf.Valid) (h2:cf2.Valid) (hd:¬cf.d=cf2.d) (hb:cf.b=cf2.b) (w:World) :
  Calls Tryz.prog 41 #[.agg cf.arr,.agg cf2.arr] w fun e w'=>e=.returned (.bool true)/\Below w.heap.size w w':=by
 have HV1:=zh (fun W=>jk cf W);have HV2:=zh (fun W=>jk cf2 W);rw[decide_eq_true h1]at HV1;rw[decide_eq_true h2]at HV2;have HSA:Hid ((Tryz.prog.info? 25).map (·.size)=some cf.arr.toList.length):=zh (by rw[Array.length_toList,cf.arr_size];exact aS);have HSB:Hid ((Tryz.prog.info? 25).map (·.size)=some cf2.arr.toList.length):=zh (by rw[Array.length_toList,cf2.arr_size];exact aS);have HUC:=zh Tryz.underlying25;have ha0:cf.arr[0]? = some (.int .i64 cf.b):=cf.arr_at (by decide);have ha1:cf.arr[1]? = some (.int .i64 cf.d):=cf.arr_at (by decide);have hc0:cf2.arr[0]? = some (.int .i64 cf2.b):=cf2.arr_at (by decide);have hc1:cf2.arr[1]? = some (.int .i64 cf2.d):=cf2.arr_at (by decide);rw[<-hb]at hc0;obtain⟨CA,hCA⟩:=af cf.arr
 obtain⟨CB,hCB⟩:=af cf2.arr
 rw[<-hCA]at HV1 HSA ha0 ha1 ⊢;rw[<-hCB]at HV2 HSB hc0 hc1 ⊢;obtain⟨b,hbb⟩:=af cf.b
 obtain⟨d,hdd⟩:=af cf.d
 obtain⟨d2,hdd2⟩:∃d,d=cf2.d:=⟨_,rfl⟩
 rw[<-hbb]at ha0 hc0;rw[<-hdd]at ha1 hd;rw[<-hdd2]at hc1 hd;have hne:(d != d2)=true:=by simpa using hd
 have HA:=zh (And.intro ha0 (And.intro ha1 (And.intro hc0 hc1)));have HNE:=zh hne;clear hCA hCB hbb hdd hdd2 hb h1 h2 ha0 ha1 hc0 hc1 hne hd;go_enter Tryz.func41,Tryz.ntmps41;go_upto_region 1 with (fail)
 obtain⟨kb,hkb⟩:=af w.heap.size
 refine ah (fun V=>ae V kb 25 CA/\ae V (kb+1) 25 CB/\Below w.heap.size w V) ⟨by rw[hkb];exact(aI _ _ _ _ rfl).alloc _,by rw[hkb];exact aI _ _ _ _ (by simp),((Below.refl _ w).alloc ay _).alloc (by simp) _⟩ ?_;rintro V ⟨b0,b1,b5⟩;rw[<-hkb];have HB0:=zh b0;have HB1:=zh b1;have HV:=zh b5;have R0:=zh (show V.rangeAt kb 0 CA.toList from fun j y hy=>by rw[b0.cell,Nat.zero_add,<-hy,Array.getElem?_toList]);clear b0 b1 b5 hkb;go_wp2_with (first
  | (refine wpList_load_mid rfl 25 _ rfl kb 0 rfl CA.toList _ R0.out HUC.out rfl HSA.out ?_)
  | (refine fv rfl 25 _ rfl (kb+1) 0 rfl CB.toList _ R1.out HUC.out rfl HSB.out ?_)
  | (go_at_call 62;have hq:=B1.out;clear hq;refine(HV2.out _).mono ?_;rintro e w2 ⟨rfl,hb⟩;have B2:=zh (B1.out.trans (hb.mono B1.out.size));have x0:=(((HB0.out.below B1.out HB0.out.lt).below hb (bp HB0.out.lt B1.out.size)).cell 0).trans HA.out.1;have x1:=(((HB0.out.below B1.out HB0.out.lt).below hb (bp HB0.out.lt B1.out.size)).cell 1).trans HA.out.2.1;have y0:=(((HB1.out.below B1.out HB1.out.lt).below hb (bp HB1.out.lt B1.out.size)).cell 0).trans HA.out.2.2.1;have y1:=(((HB1.out.below B1.out HB1.out.lt).below hb (bp HB1.out.lt B1.out.size)).cell 1).trans HA.out.2.2.2;have hne:=HNE.out;clear hb)
  | (go_at_call 62;refine(HV1.out _).mono ?_;rintro e w1 ⟨rfl,hb⟩;have B1:=zh hb;have R1:=zh (show w1.rangeAt (kb+1) 0 CB.toList from fun j y hy=>by rw[(HB1.out.below hb HB1.out.lt).cell,Nat.zero_add,<-hy,Array.getElem?_toList]);clear hb))
 go_ret
 exact⟨rfl,HV.out.trans (B2.out.mono HV.out.size)⟩
theorem jW (cf cf2:ax) (h1:cf.Valid) (h2:cf2.Valid) (hd:¬cf.d=cf2.d) (hb:cf.b=cf2.b) (w:World) :
  Calls Tryz.prog 21 #[.agg cf.arr,.agg cf2.arr] w fun e w'=>∃g h X,e=.returned (.tuple #[.agg (ao g h),.int .i64 0])/\cP w.heap.size w' g h (gm cf) (eZ cf2 X)/\Below w.heap.size w w':=by
 have HFT:=zh (fun V=>pE cf cf2 h1 h2 hd hb V);have HRS:=zh (fun V=>mB cf cf2 #[.int .u32 0,.bool false,.slice none 0 0,.slice none 0 0] #[.int .u64 0,.int .u64 0,.slice none 0 0] rfl rfl (gm cf) 0 0 [] V (fun U _=>vT cf h1 U) (fun U _=>vH cf2 h2 U));have HSA:Hid ((Tryz.prog.info? 25).map (·.size)=some cf.arr.toList.length):=zh (by rw[Array.length_toList,cf.arr_size];exact aS);have HSB:Hid ((Tryz.prog.info? 25).map (·.size)=some cf2.arr.toList.length):=zh (by rw[Array.length_toList,cf2.arr_size];exact aS);have HUC:=zh Tryz.underlying25;obtain⟨CA,hCA⟩:=af cf.arr
 obtain⟨CB,hCB⟩:=af cf2.arr
 rw[<-hCA]at HFT HRS HSA ⊢;rw[<-hCB]at HFT HRS HSB ⊢;clear hCA hCB h1 h2 hd hb;go_enter Tryz.func21,Tryz.ntmps21;go_upto_region 1 with (fail)
 obtain⟨kb,hkb⟩:=af w.heap.size
 have HKB:=zh hkb;refine ah (fun V=>ae V kb 25 CA/\ae V (kb+1) 25 CB/\ae V (kb+1+1) 34 #[.pointer none,.pointer none]/\Below w.heap.size w V/\w.heap.size+3<=V.heap.size) ⟨by rw[hkb];exact((aI _ _ _ _ rfl).alloc _).alloc _,by rw[hkb];exact(aI _ _ _ _ (by simp)).alloc _,by rw[hkb];exact aI _ _ _ _ (by simp),(((Below.refl _ w).alloc ay _).alloc (by simp) _).alloc (by simp;omega) _,by simp⟩ ?_;rintro V ⟨b0,b1,b4,b5,b6⟩;rw[<-hkb];have HB0:=zh b0;have HB1:=zh b1;have HB4:=zh b4;have HV:=zh b5;have HVS:=zh b6;have R0:=zh (show V.rangeAt kb 0 CA.toList from fun j y hy=>by rw[b0.cell,Nat.zero_add,<-hy,Array.getElem?_toList]);have R1:=zh (show V.rangeAt (kb+1) 0 CB.toList from fun j y hy=>by rw[b1.cell,Nat.zero_add,<-hy,Array.getElem?_toList]);clear b0 b1 b4 b5 b6 hkb;go_upto_region 3 with (first
  | (refine wpList_load_mid rfl 25 _ rfl kb 0 rfl CA.toList _ R0.out HUC.out rfl HSA.out ?_)
  | (refine wpList_load_mid rfl 25 _ rfl (kb+1) 0 rfl CB.toList _ R1.out HUC.out rfl HSB.out ?_)
  | (go_at_call 41;refine(HFT.out _).mono ?_;rintro e w1 ⟨rfl,hb⟩;have B1:=zh hb;clear hb))
 have c0:=HB0.out.below B1.out HB0.out.lt;have c1:=HB1.out.below B1.out HB1.out.lt;have C4:=zh (HB4.out.below B1.out HB4.out.lt);have X1:=zh (HV.out.trans (B1.out.mono HV.out.size));have S0:=zh (show w1.rangeAt kb 0 CA.toList from fun j y hy=>by rw[c0.cell,Nat.zero_add,<-hy,Array.getElem?_toList]);have S1:=zh (show w1.rangeAt (kb+1) 0 CB.toList from fun j y hy=>by rw[c1.cell,Nat.zero_add,<-hy,Array.getElem?_toList]);clear c0 c1;go_wp2_with (first
  | (refine wpList_load_mid rfl 25 _ rfl kb 0 rfl CA.toList _ S0.out HUC.out rfl HSA.out ?_)
  | (refine wpList_load_mid rfl 25 _ rfl (kb+1) 0 rfl CB.toList _ S1.out HUC.out rfl HSB.out ?_)
  | (go_at_call 42;refine(HRS.out _).mono ?_;rintro e w2 ⟨g,h,X,rfl,hS,hb⟩;have HSR:=zh hS;have D4:=zh (C4.out.below hb C4.out.lt);have X2:=zh (X1.out.trans (hb.mono X1.out.size));clear hS hb;unfold ao)
  | (refine wpList_store_row rfl _ _ _ rfl (kb+1+1) (ao g h) rfl rfl 34 _ D4.out (aW g h) rfl (cv g h) ?_))
 have hB5:=ae.setRow (ds:=ao g h) D4.out;have HK5:=aa.setRow (F:=fun k=>k=kb+1+1) (aa.of_below (Below.refl _ w2)) rfl (ao g h);refine bodyPost_ret (v:=.tuple #[.agg (ao g h),.int .i64 0]) (bj (g:=kb+1+1) (t:=34) (fr:=(0,0)) Tryz.results21 _ _ (ao g h) _ rfl hB5 Tryz.underlying34 rfl (aW g h) _ rfl) rfl ⟨g,h,X,rfl,(HSR.out.keep HK5 (fun k hk=>by have:=HKB.out;have:=HVS.out;have:=B1.out.size;omega)).mono (by have:=HVS.out;have:=B1.out.size;omega),al X2.out (by have:=HKB.out;omega) _⟩
section
variable {w0 w w':World} {n:Nat} {A:Nat->Ag}
theorem an.rep2 (h:an w0 w n A) {i j:Nat} (hi:i < n) (hj:j < n) (hij:i ≠ j):∃Oi Oj:Nat->Prop,(A i).P w Oi/\(A j).P w Oj/\(∀k,Oi k->¬Oj k)/\∀(X Y:Ag) (Oi' Oj':Nat->Prop) (w':World),Below w.heap.size w w'->X.P w' Oi'->Y.P w' Oj'->(∀k,Oi' k->Oi k\/w.heap.size<=k)->(∀k,Oj' k->Oj k\/w.heap.size<=k)->(∀k,Oi' k->¬Oj' k)->an w0 w' n (bW (bW A i X) j Y):=by
 obtain⟨O,h1,h2,h3,h4⟩:=h;refine⟨O i,O j,h1 i hi,h1 j hj,h3 i j hi hj hij,fun X Y Oi' Oj' w' hb hX hY hI hJ hd=>?_⟩;have hs:=h4.size;have far:∀a,a < n->a ≠ i->a ≠ j->∀k,O a k->¬Oi' k/\¬Oj' k:=fun a ha e1 e2 k hk=>by
  have hl:=(A a).lt (h1 a ha) k hk;refine⟨fun hx=>?_,fun hx=>?_⟩
  ·rcases hI k hx with h | h
   ·exact h3 a i ha hi e1 k hk h
   ·omega
  ·rcases hJ k hx with h | h
   ·exact h3 a j ha hj e2 k hk h
   ·omega
 refine⟨fun a=>if a=j then Oj' else if a=i then Oi' else O a,fun a ha=>?_,fun a ha k hk=>?_,fun a b ha hb' hab k h5 h6=>?_,h4.trans (hb.mono hs)⟩
 ·by_cases e:a=j
  ·subst e;simp only[bL,↓reduceIte]
   exact hY
  ·by_cases e2:a=i
   ·subst e2;simp only[cy _ _ e,bL,if_neg e,↓reduceIte]
    exact hX
   ·simp only[cy _ _ e,cy _ _ e2,if_neg e,if_neg e2]
    exact(A a).keep (h1 a ha) (aa.of_below (F:=fun _=>False) hb) (fun k hf=>hf.elim)
 ·by_cases e:a=j
  ·simp only[if_pos e]at hk;rcases hJ k hk with h | h
   ·exact h2 j hj k h
   ·omega
  ·by_cases e2:a=i
   ·simp only[if_neg e,if_pos e2]at hk;rcases hI k hk with h | h
    ·exact h2 i hi k h
    ·omega
   ·simp only[if_neg e,if_neg e2]at hk
    exact h2 a ha k hk
 ·by_cases ea:a=j
  ·simp only[if_pos ea]at h5;have eb:¬b=j:=fun e=>hab (ea.trans e.symm);by_cases eb2:b=i
   ·simp only[if_neg eb,if_pos eb2]at h6
    exact hd k h6 h5
   ·simp only[if_neg eb,if_neg eb2]at h6
    exact(far b hb' eb2 eb k h6).2 h5
  ·by_cases ea2:a=i
   ·simp only[if_neg ea,if_pos ea2]at h5;by_cases eb:b=j
    ·simp only[if_pos eb]at h6
     exact hd k h5 h6
    ·have eb2:¬b=i:=fun e=>hab (ea2.trans e.symm);simp only[if_neg eb,if_neg eb2]at h6
     exact(far b hb' eb2 eb k h6).1 h5
   ·simp only[if_neg ea,if_neg ea2]at h5;by_cases eb:b=j
    ·simp only[if_pos eb]at h6
     exact(far a ha ea2 ea k h5).2 h6
    ·by_cases eb2:b=i
     ·simp only[if_neg eb,if_pos eb2]at h6
      exact(far a ha ea2 ea k h5).1 h6
     ·simp only[if_neg eb,if_neg eb2]at h6
      exact h3 a b ha hb' hab k h5 h6
theorem an.perm (h:an w0 w n A) {m:Nat} (p:Nat->Nat) (hp:∀i,i < m->p i < n) (hi:∀i j,i < m->j < m->i ≠ j->p i ≠ p j) (A':Nat->Ag) (hA:∀i,i < m->A' i=A (p i)):an w0 w m A':=by
 obtain⟨O,h1,h2,h3,h4⟩:=h
 exact⟨fun i=>O (p i),fun i h=>by rw[hA i h];exact h1 _ (hp i h),fun i h k hk=>h2 _ (hp i h) k hk,fun i j h5 h6 h7 k=>h3 _ _ (hp i h5) (hp j h6) (hi i j h5 h6 h7) k,h4⟩
theorem cP.new {g h:Nat} {s:TS} {r:RS} (hF:an w0 w n A) (hb:Below w.heap.size w w') (hS:cP w.heap.size w' g h s r):an w0 w' (n+2) (bW (bW A n (fN g s)) (n+1) (fP h r none 0 [])):=by
 obtain⟨W,R,W2,R2,sb,l,ub,eb,t,m,h3,h4,h5⟩:=hS;have hE:∀V:World,(uG none 0 []).P V (fun _=>False):=fun V=>⟨fun _=>False,⟨⟨[],rfl,SL.nil _ _ _,fun x hx=>(by cases hx)⟩,fun a ha=>(by cases ha)⟩,fun k hk=>hk.elim,fun k=>⟨fun hk=>hk.elim,fun hk=>hk.elim id (fun⟨a,ha,_⟩=>by cases ha)⟩⟩
 have h6:=(hF.new_ (Below.refl _ w) (hE w) (fun k hk=>hk.elim)).new_ (Below.refl _ w) (hE w) (fun k hk=>hk.elim);obtain⟨Oi,Oj,_,_,_,h7⟩:=h6.rep2 (i:=n) (j:=n+1) (by omega) (by omega) (by omega);have h8:=h7 (fN g s) (fP h r none 0 []) (fun k=>W k\/R k) (fun k=>W2 k\/R2 k) w' hb ⟨W,R,t,fun k=>Iff.rfl⟩ ⟨W2,R2,sb,l,ub,eb,m,⟨⟨[],rfl,SL.nil _ _ _,fun x hx=>(by cases hx)⟩,fun a ha=>(by cases ha)⟩,fun a ha=>(by cases ha),fun k=>⟨fun hk=>hk.elim .inl (fun hk=>.inr (.inl hk)),fun hk=>hk.elim .inl (fun hk=>hk.elim .inr (fun⟨a,ha,_⟩=>by cases ha))⟩⟩ (fun k hk=>.inr (h3 k hk)) (fun k hk=>.inr (h4 k hk)) h5;refine h8.congr (fun j hj=>?_);by_cases e:j=n+1
 ·subst e;rw[bL,bL]
 ·rw[cy _ _ e,cy _ _ e];by_cases e2:j=n
  ·subst e2;rw[bL,bL]
  ·rw[cy _ _ e2,cy _ _ e2,cy _ _ e,cy _ _ e2]
theorem cP.move {i j g0 g h:Nat} {s:TS} {r0 r:RS} {B:Option Addr} {c:Nat} {vs:List SV} (hF:an w0 w n A) (hi:i < n) (hj:j < n) (hij:i ≠ j) (hA:A j=fP g0 r0 B c vs) (hb:Below w.heap.size w w') (hS:cP w.heap.size w' g h s r):an w0 w' n (bW (bW A i (fN g s)) j (fP h r B c vs)):=by
 obtain⟨W,R,W2,R2,sb,l,ub,eb,t,m,h3,h4,h5⟩:=hS;obtain⟨Oi,Oj,_,q1,_,q2⟩:=hF.rep2 hi hj hij;rw[hA]at q1;obtain⟨W0,R0,sb0,l0,ub0,eb0,t1,t2,t3,t4⟩:=q1;have hs:=hb.size;refine q2 _ _ (fun k=>W k\/R k) (fun k=>W2 k\/(R0 k\/R2 k)\/dg B k) w' hb ⟨W,R,t,fun k=>Iff.rfl⟩ ⟨W2,fun k=>R0 k\/R2 k,sb,l,ub,eb,m.moreR (fun k hr=>.inr hr) (fun k hw hr=>?_) (fun k hr=>?_),(t2.below hb).more (fun k hr=>.inl hr) (fun a ha hr=>?_),fun a ha hw=>?_,fun k=>Iff.rfl⟩ (fun k hk=>.inr (h3 k hk)) (fun k hk=>?_) (fun k hk hk2=>?_)
 ·rcases hr with hr | hr
  ·have:=t1.rin k hr;have:=h4 k (.inl hw);omega
  ·exact m.dis k hw hr
 ·rcases hr with hr | hr
  ·have:=t1.rin k hr;omega
  ·exact m.rin k hr
 ·rcases hr with hr | hr
  ·exact(t2.blk a ha).2 hr
  ·have:=t2.lt ha;have:=h4 _ (.inr hr);omega
 ·have:=t2.lt ha;have:=h4 _ (.inl hw);omega
 ·rcases hk with hk | (hk | hk) | hk
  ·exact .inr (h4 k (.inl hk))
  ·exact .inl ((t4 k).2 (.inr (.inl hk)))
  ·exact .inr (h4 k (.inr hk))
  ·exact .inl ((t4 k).2 (.inr (.inr hk)))
 ·have:=h3 k hk;rcases hk2 with hk2 | (hk2 | hk2) | ⟨a,ha,e⟩
  ·exact h5 k hk (.inl hk2)
  ·have:=t1.rin k hk2;omega
  ·exact h5 k hk (.inr hk2)
  ·have:=t2.lt ha;rw[<-e]at this;omega
end
theorem x6 (C C':ax) (i:Nat) (hi:i < 39) (v:Value) (hv:C'.cell i=v) (ho:∀j,j ≠ i->C'.cell j=C.cell j):C.arr.setIfInBounds i v=C'.arr:=by
 apply Array.ext_getElem?;intro j;by_cases e:j=i
 ·subst e;rw[Array.getElem?_setIfInBounds_self_of_lt (by rw[C.arr_size];exact hi),C'.arr_at hi,hv]
 ·rw[Array.getElem?_setIfInBounds_ne (by omega)];by_cases h:j < 39
  ·rw[C.arr_at h,C'.arr_at h,ho j e]
  ·rw[Array.getElem?_eq_none (by rw[C.arr_size];omega),Array.getElem?_eq_none (by rw[C'.arr_size];omega)]
def ax.opp (c:ax):ax:={ c with d:=1-c.d }
theorem x8 (c:ax):c.arr.setIfInBounds 1 (.int .i64 (1-c.d))=c.opp.arr:=x6 _ _ 1 (by decide) _ rfl (fun j hj=>by
 unfold ax.opp ax.cell;simp[hj])
theorem vd (cf:ax) (hd:cf.d=0\/cf.d=1) (w:World):Calls Tryz.prog 22 #[.agg cf.arr] w fun e w'=>e=.returned (.agg cf.opp.arr)/\Below w.heap.size w w':=by
 have ha1:cf.arr[1]? = some (.int .i64 cf.d):=cf.arr_at (by decide);have HOP:=zh (x8 cf);have HSA:Hid ((Tryz.prog.info? 25).map (·.size)=some cf.opp.arr.toList.length):=zh (by rw[Array.length_toList,cf.opp.arr_size];exact aS);have HSB:Hid ((Tryz.prog.info? 25).map (·.size)=some cf.opp.arr.size):=zh (by rw[cf.opp.arr_size];exact aS);have HZZ:Hid (lZ.size=cf.opp.arr.size):=zh (by rw[cf.opp.arr_size];rfl);have HO:=zh cf.opp.arr_one;have HUC:=zh Tryz.underlying25;obtain⟨CA,hCA⟩:=af cf.arr
 obtain⟨CB,hCB⟩:=af cf.opp.arr
 obtain⟨d,hdd⟩:=af cf.d
 rw[<-hCA]at HOP ha1 ⊢;rw[<-hCB]at HOP HSA HSB HZZ HO ⊢;rw[<-hdd]at HOP ha1 hd;have hd0:0<=d/\d<=1:=by omega
 have HA1:=zh ha1;clear hCA hCB hdd hd ha1;go_enter Tryz.func22,Tryz.ntmps22;go_upto_region 1 with (fail)
 obtain⟨kb,hkb⟩:=af w.heap.size
 have HKB:=zh hkb;refine ah (fun V=>ae V kb 25 CA/\ae V (kb+1) 25 lZ/\Below w.heap.size w V) ⟨by rw[hkb];exact(aI _ _ _ _ rfl).alloc _,by rw[hkb];exact aI _ _ _ _ (by simp),((Below.refl _ w).alloc ay _).alloc (by simp) _⟩ ?_;rintro V ⟨b0,b1,b5⟩;rw[<-hkb];have HB0:=zh b0;have HB1:=zh b1;have HV:=zh b5;have c1:V.cell? ⟨kb,1,none⟩=some (.int .i64 d):=(b0.cell 1).trans HA1.out;have f1:=b0.frozen 1;clear b0 b1 b5 hkb;go_upto_region 2 with (fail)
 refine ah (fun V2=>ae V2 kb 25 CB/\ae V2 (kb+1) 25 lZ/\Below w.heap.size w V2) ⟨by have:=HB0.out.set_ 1 (.int .i64 (1-d));rw[HOP.out]at this;exact this,HB1.out.far (p:=⟨kb,1,none⟩) (by show ¬kb+1=kb;omega) _,HV.out.setCell (by show w.heap.size<=kb;have:=HKB.out;omega) _⟩ ?_;rintro V2 ⟨b0,b1,b5⟩;have HC1:=zh b1;have HV2:=zh b5;have R0:=zh (show V2.rangeAt kb 0 CB.toList from fun j y hy=>by rw[b0.cell,Nat.zero_add,<-hy,Array.getElem?_toList]);clear b0 b1 b5 c1 f1;go_wp2_with (first
  | (refine wpList_load_mid rfl 25 _ rfl kb 0 rfl CB.toList _ R0.out HUC.out rfl HSA.out ?_)
  | (refine wpList_store_row rfl _ _ _ rfl (kb+1) CB rfl rfl 25 lZ HC1.out HSB.out HZZ.out HO.out ?_))
 refine bodyPost_ret (v:=.agg CB) (results_cell_row (g:=kb+1) (t:=25) (fr:=(0,0)) Tryz.results22 _ _ CB _ rfl (ae.setRow HC1.out) HUC.out rfl HSB.out) rfl ⟨rfl,al HV2.out (by have:=HKB.out;omega) _⟩
end Go.Proofs.YtbfpdnnphdagjaaGreat
namespace Go.Proofs.YtbfpdnnphdagjaaGreat
open Go.RowKit
section
variable {w0 w:World} {n:Nat} {A:Nat->Ag} {i j g h:Nat} {s:TS} {r:RS} {B:Option Addr} {cB:Nat} {vs:List SV} {KT KR:Array Value} {f c f2 c2:Nat->Int}
theorem an.rest (hF:an w0 w n A) (hi:i < n) (hj:j < n) (hij:i ≠ j) (hA:A i=fN g s) (hB:A j=fP h r B cB vs) (hk0:∀j,j < 16->KT[j]? = some (.int .u8 (f j))) (hk1:∀j,j < 16->KT[16+j]? = some (.int .u8 (c j))) (hk2:∀j,j < 16->KR[j]? = some (.int .u8 (f2 j))) (hk3:∀j,j < 16->KR[16+j]? = some (.int .u8 (c2 j)))
  (UT UR:List (Nat->Int)) (hUT:s.used=UT.map aj) (hUR:r.used=UR.map aj) (hco:eo s.comp) (hpl:s.P.length<=1000000) (hcm:r.C.cm=false) (hft:de f UT=false) (hfr:de f2 UR=false) :
  Calls Tryz.prog 13 #[.agg (ao g h),.agg KT,.agg KR] w fun e w'=>e=.returned (.int .i64 0)/\an w0 w' n (bW (bW A i (fN g (s.rekeyed f c))) j (fP h (r.rekeyed f2 c2) B cB vs)):=by
 obtain⟨W,R,t1,_,t3⟩:=hF.tx hi hA;obtain⟨W2,R2,sb,l,ub,eb,m1,m2,m3⟩:=hF.rx hj hB;refine sW g h KT KR f c f2 c2 hk0 hk1 hk2 hk3 w (fun V hb=>sw g h s r W R W2 R2 sb l ub eb V (t1.below hb) (m1.below hb)) (fun V hb=>?_) (fun V hb=>?_) (P:=fun w'=>an w0 w' n (bW A i (fN g (s.rekeyed f c)))) (Q:=fun w'=>an w0 w' n (bW (bW A i (fN g (s.rekeyed f c))) j (fP h (r.rekeyed f2 c2) B cB vs))) (fun V hb=>?_) (fun V hP=>?_)
 ·have:=uD g s W R V (t1.below hb) UT hUT f;rw[hft]at this
  exact this
 ·have:=pQ h r W2 R2 sb l ub eb V (m1.below hb) UR hUR f2;rw[hfr]at this
  exact this
 ·refine(qK g s W R V (t1.below hb) UT hUT hco hpl f c hft).mono fun e w' ⟨he,W',R',o1,o2,o3,o4⟩=>⟨he,t3 w' _ ⟨W',R',o1,fun k hk=>(o2 k hk).imp id (fun h=>a9 hb.size h),fun k hk=>(o3 k hk).imp id (fun h=>a9 hb.size h),(aa.of_below hb).trans o4 (fun _ _ h=>h)⟩,o4.mono (fun k hk=>t1.winr.1 k hk)⟩
 ·obtain⟨W3,R3,sb3,l3,ub3,eb3,q1,q2,q3⟩:=hP.rx hj ((cy _ _ (fun e=>hij e.symm)).trans hB)
  exact(qQ h r W3 R3 sb3 l3 ub3 eb3 V q1 UR hUR hcm f2 c2 hfr).mono fun e w' ⟨he,hT,hK⟩=>⟨he,q3 w' _ hT hK⟩
end
end Go.Proofs.YtbfpdnnphdagjaaGreat

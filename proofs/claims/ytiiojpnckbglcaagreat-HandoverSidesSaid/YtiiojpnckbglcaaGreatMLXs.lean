import Derived.Test.YtiiojpnckbglcaaGreatMZMs
import Derived.Test.YtiiojpnckbglcaaGreatDXs
import Derived.Test.YtiiojpnckbglcaaGreatDLs
import Derived.Test.YtiiojpnckbglcaaGreatMVMs
import Derived.Test.YtiiojpnckbglcaaGreatMYHs
import Derived.Test.YtiiojpnckbglcaaGreatMVJs
import Derived.Test.YtiiojpnckbglcaaGreatVAs
import Derived.Test.YtiiojpnckbglcaaGreatMVSs
import Derived.Test.YtiiojpnckbglcaaGreatMYAs
import Derived.Test.YtiiojpnckbglcaaGreatMRLs
import Derived.Test.YtiiojpnckbglcaaGreatMZAs
import Derived.Test.YtiiojpnckbglcaaGreatMCFs
import Derived.Test.YtiiojpnckbglcaaGreatMZOs
import Derived.Test.YtiiojpnckbglcaaGreatDTs
import Derived.Test.YtiiojpnckbglcaaGreatMDAs
import Derived.Test.YtiiojpnckbglcaaGreatTAs
import Derived.Test.YtiiojpnckbglcaaGreatMBBs
import Derived.Laws.Bits64b
import Derived.StillTailTactics
import Derived.BigRegion
import Derived.Deep.MidRow
import Derived.BigQuiet
set_option maxRecDepth 100000
set_option maxHeartbeats 1600000
set_option linter.unusedVariables false
set_option linter.unusedSimpArgs false
namespace Go.Proofs.YtiiojpnckbglcaaGreat
open Go.RowKit
attribute [local go_sem ↓] Go.wp_at_zero Go.wp_at_succ
theorem Tryz.vinfoBool:(Tryz.prog.info? 4).map (fun i=>(i.zero,i.size,i.bytes))=some (some (.bool false),1,1):=by kernel_rfl
theorem mE (g:Nat) (s:RS) (W R:Nat->Prop) (sb:Nat) (l:List SE) (ub eb:Nat) (w:World) (h:eI w g s W R sb l ub eb):Calls Tryz.prog 78 #[.pointer (some ⟨g,0,none⟩)] w fun e w'=>e=.returned (.tuple #[.agg s.C.arr,.int .i64 0])/\Below w.heap.size w w':=by
 have HN:=zh (fun W hW=>lz g W hW);have HRG:=zh (show ∀V,Below w.heap.size w V->V.rangeAt g 0 s.C.arr.toList from fun V hV j v hv=>by
  have hj:j < 39:=by have:=(List.getElem?_eq_some_iff.1 hv).1;rw[Array.length_toList,s.C.arr_size]at this;exact this
  rw[Nat.zero_add,(h.below hV).cC hj,<-hv,Array.getElem?_toList,s.C.arr_at hj])
 have H39:=zh (show ∀V,Below w.heap.size w V->V.cell? ⟨g,39,none⟩=some (.bool true)from fun V hV=>(h.below hV).hi 0);have HS:Hid ((Tryz.prog.info? 25).map (·.size)=some s.C.arr.size):=zh (by rw[s.C.arr_size];exact aM);have HSL:Hid ((Tryz.prog.info? 25).map (·.size)=some s.C.arr.toList.length):=zh (by rw[Array.length_toList,s.C.arr_size];exact aM);have HO:=zh s.C.arr_one;have HSZ:=zh s.C.arr_size;obtain⟨Z,hZ⟩:=af s.C.arr
 rw[<-hZ]at HRG HS HSL HO HSZ ⊢;clear h hZ;go_enter Tryz.func78,Tryz.ntmps78;go_wp2_with (first
  | (go_at_call 63;refine(HN.out _ (H39.out _ ((Below.refl _ w).alloc ao _))).mono ?_;rintro e w1 ⟨rfl,rfl⟩)
  | (refine wpList_load_mid rfl 25 _ rfl g 0 rfl Z.toList _ (HRG.out _ ((Below.refl _ w).alloc ao _)) Tryz.underlying25 rfl HSL.out ?_)
  | (refine wpList_store_row rfl _ _ _ rfl w.heap.size Z rfl rfl 25 _ (ae.new w _ _) HS.out (by rw[HSZ.out];rfl) HO.out ?_))
 refine bodyPost_ret (v:=.tuple #[.agg Z,.int .i64 0]) (aO (g:=w.heap.size) (t:=25) (fr:=(0,0)) Tryz.results78 _ _ Z _ rfl (ae.setRow (ae.new w _ _)) Tryz.underlying25 rfl HS.out _ rfl) rfl ⟨rfl,aj ((Below.refl _ w).alloc ao _) ao _⟩
theorem aP {P:Program} {ops:Array Oper} {rest:List Oper} {op:Oper} {a:Act} {w:World} {Q:Exit->Act->World->Prop} (hw:Region.wanted op (yielded ops a.tmps)=true) (ty:TypeId) (x:Operand) (ho:op.op=.load ty x)
  (b o:Nat) (hx:a.eval x=.pointer (some ⟨b,o,none⟩)) (cs:List Value) (d:TypeDesc) (hc:w.rangeAt b o cs)
  (hu:P.underlying ty=some d) (hd:d.isRow=true) (hi:(P.info? ty).map (·.size)=some cs.length)
  (h:wpList P ops Q rest (a.put op.dst (.agg cs.toArray)) w):wpList P ops Q (op :: rest) a w:=
 wpList_step fun K hK=>by rw[if_pos hw];exact wp_load_mid ty x ho b o hx cs d hc hu hd hi (hK _ _ h)
def aG (g h:Nat):Array Value:=#[.pointer (some ⟨g,0,none⟩),.pointer (some ⟨h,0,none⟩)]
theorem vC (g h:Nat) (s:TS) (r:RS) (W R W2 R2:Nat->Prop) (sb:Nat) (l:List SE) (ub ek:Nat) (w:World) (ht:dK w g s W R) (hr:eI w h r W2 R2 sb l ub ek) :
  Calls Tryz.prog 40 #[.agg (aG g h)] w fun e w'=>e=.returned (.bool false)/\Below w.heap.size w w':=by
 have HT:=zh (fun(V:World) (hb:Below w.heap.size w V)=>pJ g s W R V (ht.below hb));have HR:=zh (fun(V:World) (hb:Below w.heap.size w V)=>mE h r W2 R2 sb l ub ek V (hr.below hb));have HO:Hid (s.C.arr.all (·.oneCell')=true):=zh s.C.arr_one;have HSZ:Hid ((Tryz.prog.info? 25).map (·.size)=some s.C.arr.size):=zh (by rw[s.C.arr_size];exact aM);have HZZ:Hid (xT.size=s.C.arr.size):=zh (by rw[s.C.arr_size];rfl);have HO2:Hid (r.C.arr.all (·.oneCell')=true):=zh r.C.arr_one;have HSZ2:Hid ((Tryz.prog.info? 25).map (·.size)=some r.C.arr.size):=zh (by rw[r.C.arr_size];exact aM);have HZZ2:Hid (xT.size=r.C.arr.size):=zh (by rw[r.C.arr_size];rfl);obtain⟨CA,hCA⟩:=af s.C.arr
 rw[<-hCA]at HT HO HSZ HZZ;obtain⟨CB,hCB⟩:=af r.C.arr
 rw[<-hCB]at HR HO2 HSZ2 HZZ2;clear hCA hCB ht hr;unfold aG;go_enter Tryz.func40,Tryz.ntmps40;go_upto_region 1 with (fail)
 obtain⟨kb,hkb⟩:=af w.heap.size
 refine ag (fun V=>ae V kb 36 (aG g h)/\Below w.heap.size w V) ⟨by rw[hkb];exact ae.new _ _ _,(Below.refl _ w).alloc ao _⟩ ?_;rintro V ⟨b1,b2⟩;rw[<-hkb];have HB:=zh b1;have HV:=zh b2;have c0:V.cell? ⟨kb,0,none⟩=some (.pointer (some ⟨g,0,none⟩)):=b1.cell 0;clear b1 b2 hkb;go_upto_region 2 with (first
  | (go_at_call 77;refine(HT.out _ HV.out).mono ?_;rintro e w1 ⟨rfl,hB⟩;have B1:=zh hB;clear hB)
  | (refine wpList_store_row rfl _ _ _ rfl w1.heap.size CA rfl rfl 25 xT (ae.new w1 _ _) HSZ.out HZZ.out HO.out ?_))
 refine ag (fun V2=>Below V.heap.size V V2) (B1.out.trans ((aj ((Below.refl _ w1).alloc ao _) ao _).mono B1.out.size)) ?_;intro V2 hX;have c1:V2.cell? ⟨kb,1,none⟩=some (.pointer (some ⟨h,0,none⟩)):=(HB.out.below hX HB.out.lt).cell 1;have X2:=zh (HV.out.trans (hX.mono HV.out.size));clear hX c0;go_upto_region 3 with (first
  | (go_at_call 78;refine(HR.out _ X2.out).mono ?_;rintro e w3 ⟨rfl,hB⟩;have B3:=zh hB;clear hB)
  | (refine wpList_store_row rfl _ _ _ rfl w3.heap.size CB rfl rfl 25 xT (ae.new w3 _ _) HSZ2.out HZZ2.out HO2.out ?_))
 refine ag (fun V3=>Below V2.heap.size V2 V3) (B3.out.trans ((aj ((Below.refl _ w3).alloc ao _) ao _).mono B3.out.size)) ?_;intro V3 hX;have X3:=zh (X2.out.trans (hX.mono X2.out.size));clear hX c1;go_wp2;go_ret
 exact⟨rfl,X3.out⟩
def fF (B:Nat) (w:World) (g h:Nat) (s:TS) (r:RS):Prop:=
 ∃W R W2 R2 sb l ub eb,dK w g s W R/\eI w h r W2 R2 sb l ub eb/\(∀k,W k\/R k->B<=k)/\(∀k,W2 k\/R2 k->B<=k)/\∀k,W k\/R k->¬(W2 k\/R2 k)
theorem fF.keep {B:Nat} {w w':World} {g h:Nat} {s:TS} {r:RS} {F:Nat->Prop} (h1:fF B w g h s r) (hk:aa F w w') (hF:∀k,F k->k < B):fF B w' g h s r:=by
 obtain⟨W,R,W2,R2,sb,l,ub,eb,t,m,h3,h4,h5⟩:=h1
 exact⟨W,R,W2,R2,sb,l,ub,eb,t.keepF hk (fun k hf=>⟨fun hw=>by have:=h3 k (.inl hw);have:=hF k hf;omega,fun hw=>by have:=h3 k (.inr hw);have:=hF k hf;omega⟩),m.keepF hk (fun k hf=>⟨fun hw=>by have:=h4 k (.inl hw);have:=hF k hf;omega,fun hw=>by have:=h4 k (.inr hw);have:=hF k hf;omega⟩),h3,h4,h5⟩
theorem fF.mono {B B':Nat} {w:World} {g h:Nat} {s:TS} {r:RS} (h1:fF B w g h s r) (hB:B'<=B):fF B' w g h s r:=by
 obtain⟨W,R,W2,R2,sb,l,ub,eb,t,m,h3,h4,h5⟩:=h1
 exact⟨W,R,W2,R2,sb,l,ub,eb,t,m,fun k hk=>ba hB (h3 k hk),fun k hk=>ba hB (h4 k hk),h5⟩
theorem cO (g h:Nat):(Tryz.prog.info? 36).map (·.size)=some (aG g h).size:=by kernel_rfl
theorem fJ (g h:Nat):(aG g h).all (·.oneCell')=true:=by kernel_rfl
theorem tU (ac:Bool):sR ac 0 false 0 (fun _=>0) (fun _=>0) 0 (fun _=>0):=
 ⟨fun h=>(by cases h),fun h=>(by omega),fun k h=>(by omega),fun h=>(by omega),fun k h=>(by omega)⟩
def qN (s:TS) (w:World) (e:Ending) (w':World):Prop:=∃g W R,e=.returned (.tuple #[.pointer (some ⟨g,0,none⟩),.int .i64 0])/\dK w' g s W R/\(∀k,W k->w.heap.size<=k)/\(∀k,R k->w.heap.size<=k)/\Below w.heap.size w w'
theorem lg (cf cf2:aZ) (FA SA:Array Value) (hfs:FA.size=4) (hss:SA.size=3) (s:TS) (d nx:Int) (L:List SV) (w:World)
  (H3:∀V,Below w.heap.size w V->Calls Tryz.prog 10 #[.agg cf.arr,.agg FA] V (qN s V))
  (H4:∀V,Below w.heap.size w V->Calls Tryz.prog 59 #[.agg cf2.arr,.agg SA] V (lS cf2 d nx L V)) :
  Calls Tryz.prog 34 #[.agg cf.arr,.agg cf2.arr,.agg FA,.agg SA] w fun e w'=>∃g h X,e=.returned (.tuple #[.agg (aG g h),.int .i64 0])/\fF w.heap.size w' g h s (gA cf2 X d nx L)/\Below w.heap.size w w':=by
 have HT:=zh H3;have HR:=zh H4;have HSA:Hid ((Tryz.prog.info? 25).map (·.size)=some cf.arr.toList.length):=zh (by rw[Array.length_toList,cf.arr_size];exact aM);have HSB:Hid ((Tryz.prog.info? 25).map (·.size)=some cf2.arr.toList.length):=zh (by rw[Array.length_toList,cf2.arr_size];exact aM);have HSF:Hid ((Tryz.prog.info? 30).map (·.size)=some FA.toList.length):=zh (by rw[Array.length_toList,hfs];kernel_rfl);have HSS:Hid ((Tryz.prog.info? 82).map (·.size)=some SA.toList.length):=zh (by rw[Array.length_toList,hss];kernel_rfl);have HUC:=zh Tryz.underlying25;have HUF:=zh Tryz.underlying30;have HUS:=zh Tryz.underlying82;obtain⟨CA,hCA⟩:=af cf.arr
 obtain⟨CB,hCB⟩:=af cf2.arr
 rw[<-hCA]at HT HSA ⊢;rw[<-hCB]at HR HSB ⊢;clear hCA hCB H3 H4 hfs hss;go_enter Tryz.func34,Tryz.ntmps34;go_upto_region 1 with (fail)
 obtain⟨kb,hkb⟩:=af w.heap.size
 have HKB:=zh hkb;refine ag (fun V=>ae V kb 25 CA/\ae V (kb+1) 25 CB/\ae V (kb+1+1) 30 FA/\ae V (kb+1+1+1) 82 SA/\ae V (kb+1+1+1+1) 36 #[.pointer none,.pointer none]/\Below w.heap.size w V/\w.heap.size+5<=V.heap.size) ⟨by rw[hkb];exact((((az _ _ _ _ rfl).alloc _).alloc _).alloc _).alloc _,by rw[hkb];exact(((az _ _ _ _ (by simp)).alloc _).alloc _).alloc _,by rw[hkb];exact((az _ _ _ _ (by simp)).alloc _).alloc _,by rw[hkb];exact(az _ _ _ _ (by simp)).alloc _,by rw[hkb];exact az _ _ _ _ (by simp),(((((Below.refl _ w).alloc ao _).alloc (by simp) _).alloc (by simp;omega) _).alloc (by simp;omega) _).alloc (by simp;omega) _,by simp⟩ ?_;rintro V ⟨b0,b1,b2,b3,b4,b5,b6⟩;rw[<-hkb];have HB0:=zh b0;have HB1:=zh b1;have HB2:=zh b2;have HB3:=zh b3;have HB4:=zh b4;have HV:=zh b5;have HVS:=zh b6;have R0:=zh (show V.rangeAt kb 0 CA.toList from fun j y hy=>by rw[b0.cell,Nat.zero_add,<-hy,Array.getElem?_toList]);have R2:=zh (show V.rangeAt (kb+1+1) 0 FA.toList from fun j y hy=>by rw[b2.cell,Nat.zero_add,<-hy,Array.getElem?_toList]);clear b0 b1 b2 b3 b4 b5 b6 hkb;go_upto_region 4 with (first
  | (refine wpList_load_mid rfl 25 _ rfl kb 0 rfl CA.toList _ R0.out HUC.out rfl HSA.out ?_)
  | (refine wpList_load_mid rfl 30 _ rfl (kb+1+1) 0 rfl FA.toList _ R2.out HUF.out rfl HSF.out ?_)
  | (go_at_call 10;refine(HT.out _ HV.out).mono ?_;rintro e w1 ⟨g,W,R,rfl,t1,t2,t3,hb⟩;have T1:=zh (And.intro t1 (And.intro t2 t3));have B1:=zh hb;clear t1 t2 t3 hb))
 have c1:=HB1.out.below B1.out HB1.out.lt;have c3:=HB3.out.below B1.out HB3.out.lt;have c4:=HB4.out.below B1.out HB4.out.lt;have HC4:=zh c4;have X1:=zh (HV.out.trans (B1.out.mono HV.out.size));have R1:=zh (show w1.rangeAt (kb+1) 0 CB.toList from fun j y hy=>by rw[c1.cell,Nat.zero_add,<-hy,Array.getElem?_toList]);have R3:=zh (show w1.rangeAt (kb+1+1+1) 0 SA.toList from fun j y hy=>by rw[c3.cell,Nat.zero_add,<-hy,Array.getElem?_toList]);clear c1 c3 c4;go_upto_region 7 with (first
  | (refine wpList_load_mid rfl 25 _ rfl (kb+1) 0 rfl CB.toList _ R1.out HUC.out rfl HSB.out ?_)
  | (refine wpList_load_mid rfl 82 _ rfl (kb+1+1+1) 0 rfl SA.toList _ R3.out HUS.out rfl HSS.out ?_)
  | (go_at_call 59;refine(HR.out _ X1.out).mono ?_;rintro e w2 ⟨h,mS,mU,eb,X,l,R2',rfl,t1,t2,t3,t4,t5,t6,hb⟩;have T2:=zh (And.intro t1 (And.intro t2 (And.intro t3 (And.intro t4 (And.intro t5 t6)))));have B2:=zh hb;clear t1 t2 t3 t4 t5 t6 hb))
 have hc4:=HC4.out.below B2.out HC4.out.lt;have f0:=hc4.frozen 0;have f1:=hc4.frozen 1;have hSR:fF (w.heap.size+5) w2 g h s (gA cf2 X d nx L):=by
  obtain⟨q1,q2,q3,q4,q5,q6⟩:=T2.out;have hs:=HVS.out;have hs2:=B1.out.size
  exact⟨W,R,_,R2',mS,l,mU,eb,T1.out.1.below B2.out,q1,fun k hk=>by
   have:=hk.elim (T1.out.2.1 k) (T1.out.2.2 k);omega,fun k hk=>by
   rcases hk with (rfl | rfl | rfl | rfl) | hk
   ·omega
   ·omega
   ·omega
   ·omega
   ·have:=q6 k hk;omega,fun k hk hk2=>by
   have h1:k < w1.heap.size:=hk.elim (T1.out.1.winr.1 k) (T1.out.1.winr.2 k);rcases hk2 with (rfl | rfl | rfl | rfl) | hk2
   ·omega
   ·omega
   ·omega
   ·omega
   ·have:=q6 k hk2;omega⟩
 have HSR:=zh hSR;have HD4:=zh hc4;have X2:=zh (X1.out.trans (B2.out.mono X1.out.size));clear hSR hc4;go_wp2_with (refine wpList_store_row rfl _ _ _ rfl (kb+1+1+1+1) (aG g h) rfl rfl 36 _ HD4.out (cO g h) rfl (fJ g h) ?_);have hB5:=ae.setRow (ds:=aG g h) HD4.out;have HK5:=aa.setRow (F:=fun k=>k=kb+1+1+1+1) (aa.of_below (Below.refl _ w2)) rfl (aG g h);refine bodyPost_ret (v:=.tuple #[.agg (aG g h),.int .i64 0]) (aO (g:=kb+1+1+1+1) (t:=36) (fr:=(0,0)) Tryz.results34 _ _ (aG g h) _ rfl hB5 Tryz.underlying36 rfl (cO g h) _ rfl) rfl ⟨g,h,X,rfl,(HSR.out.keep HK5 (fun k hk=>by have:=HKB.out;omega)).mono (by omega),aj X2.out (by have:=HKB.out;omega) _⟩
theorem tH (cf:aZ) (hv:cf.Valid) (w:World):Calls Tryz.prog 10 #[.agg cf.arr,.agg #[.int .u32 0,.bool false,.slice none 0 0,.slice none 0 0]] w (qN (uq cf) w):=
 gO cf none none 0 0 0 0 0 false (fun _=>0) (fun _=>none) (fun _=>0) (fun _=>0) (fun _ _=>0) (fun _=>none) (fun _=>0) (fun _=>0) (fun _ _=>0) w (by omega) (by omega) (by omega) ⟨fun h=>absurd rfl h,fun k h=>absurd h (by omega),fun k h=>absurd h (by omega),fun k h=>absurd h (by omega),fun k h=>absurd h (by omega),fun k h=>absurd h (by omega)⟩ ⟨fun h=>absurd rfl h,fun k h=>absurd h (by omega),fun k h=>absurd h (by omega),fun k h=>absurd h (by omega),fun k h=>absurd h (by omega)⟩ hv (tU _)
theorem sU (cf:aZ) (hv:cf.Valid) (w:World):Calls Tryz.prog 59 #[.agg cf.arr,.agg #[.int .u64 0,.int .u64 0,.slice none 0 0]] w (lS cf 0 0 [] w):=
 js cf w hv none 0 0 0 0 (fun _=>0) (fun _=>none) (fun _=>0) (fun _=>0) (fun _ _=>0) (by omega) (by unfold maxLen;omega) ⟨fun h=>absurd rfl h,fun k h=>absurd h (by omega),fun k h=>absurd h (by omega),fun k h=>absurd h (by omega),fun k h=>absurd h (by omega),fun k h=>absurd h (by omega)⟩ po
theorem nR (cf cf2:aZ) (h1:cf.Valid) (h2:cf2.Valid) (hd:¬cf.d=cf2.d) (hb:cf.b=cf2.b) (w:World) :
  Calls Tryz.prog 33 #[.agg cf.arr,.agg cf2.arr] w fun e w'=>e=.returned (.bool true)/\Below w.heap.size w w':=by
 have HV1:=zh (fun W=>bu cf W);have HV2:=zh (fun W=>bu cf2 W);rw[decide_eq_true h1]at HV1;rw[decide_eq_true h2]at HV2;have HSA:Hid ((Tryz.prog.info? 25).map (·.size)=some cf.arr.toList.length):=zh (by rw[Array.length_toList,cf.arr_size];exact aM);have HSB:Hid ((Tryz.prog.info? 25).map (·.size)=some cf2.arr.toList.length):=zh (by rw[Array.length_toList,cf2.arr_size];exact aM);have HUC:=zh Tryz.underlying25;have ha0:cf.arr[0]? = some (.int .i64 cf.b):=cf.arr_at (by decide);have ha1:cf.arr[1]? = some (.int .i64 cf.d):=cf.arr_at (by decide);have hc0:cf2.arr[0]? = some (.int .i64 cf2.b):=cf2.arr_at (by decide);have hc1:cf2.arr[1]? = some (.int .i64 cf2.d):=cf2.arr_at (by decide);rw[<-hb]at hc0;obtain⟨CA,hCA⟩:=af cf.arr
 obtain⟨CB,hCB⟩:=af cf2.arr
 rw[<-hCA]at HV1 HSA ha0 ha1 ⊢;rw[<-hCB]at HV2 HSB hc0 hc1 ⊢;obtain⟨b,hbb⟩:=af cf.b
 obtain⟨d,hdd⟩:=af cf.d
 obtain⟨d2,hdd2⟩:∃d,d=cf2.d:=⟨_,rfl⟩
 rw[<-hbb]at ha0 hc0;rw[<-hdd]at ha1 hd;rw[<-hdd2]at hc1 hd;have hne:(d != d2)=true:=by simpa using hd
 have HA:=zh (And.intro ha0 (And.intro ha1 (And.intro hc0 hc1)));have HNE:=zh hne;clear hCA hCB hbb hdd hdd2 hb h1 h2 ha0 ha1 hc0 hc1 hne hd;go_enter Tryz.func33,Tryz.ntmps33;go_upto_region 1 with (fail)
 obtain⟨kb,hkb⟩:=af w.heap.size
 refine ag (fun V=>ae V kb 25 CA/\ae V (kb+1) 25 CB/\Below w.heap.size w V) ⟨by rw[hkb];exact(az _ _ _ _ rfl).alloc _,by rw[hkb];exact az _ _ _ _ (by simp),((Below.refl _ w).alloc ao _).alloc (by simp) _⟩ ?_;rintro V ⟨b0,b1,b5⟩;rw[<-hkb];have HB0:=zh b0;have HB1:=zh b1;have HV:=zh b5;have R0:=zh (show V.rangeAt kb 0 CA.toList from fun j y hy=>by rw[b0.cell,Nat.zero_add,<-hy,Array.getElem?_toList]);clear b0 b1 b5 hkb;go_wp2_with (first
  | (refine wpList_load_mid rfl 25 _ rfl kb 0 rfl CA.toList _ R0.out HUC.out rfl HSA.out ?_)
  | (refine aP rfl 25 _ rfl (kb+1) 0 rfl CB.toList _ R1.out HUC.out rfl HSB.out ?_)
  | (go_at_call 35;have hq:=B1.out;clear hq;refine(HV2.out _).mono ?_;rintro e w2 ⟨rfl,hb⟩;have B2:=zh (B1.out.trans (hb.mono B1.out.size));have x0:=(((HB0.out.below B1.out HB0.out.lt).below hb (bg HB0.out.lt B1.out.size)).cell 0).trans HA.out.1;have x1:=(((HB0.out.below B1.out HB0.out.lt).below hb (bg HB0.out.lt B1.out.size)).cell 1).trans HA.out.2.1;have y0:=(((HB1.out.below B1.out HB1.out.lt).below hb (bg HB1.out.lt B1.out.size)).cell 0).trans HA.out.2.2.1;have y1:=(((HB1.out.below B1.out HB1.out.lt).below hb (bg HB1.out.lt B1.out.size)).cell 1).trans HA.out.2.2.2;have hne:=HNE.out;clear hb)
  | (go_at_call 35;refine(HV1.out _).mono ?_;rintro e w1 ⟨rfl,hb⟩;have B1:=zh hb;have R1:=zh (show w1.rangeAt (kb+1) 0 CB.toList from fun j y hy=>by rw[(HB1.out.below hb HB1.out.lt).cell,Nat.zero_add,<-hy,Array.getElem?_toList]);clear hb))
 go_ret
 exact⟨rfl,HV.out.trans (B2.out.mono HV.out.size)⟩
theorem oY (cf cf2:aZ) (h1:cf.Valid) (h2:cf2.Valid) (hd:¬cf.d=cf2.d) (hb:cf.b=cf2.b) (w:World) :
  Calls Tryz.prog 8 #[.agg cf.arr,.agg cf2.arr] w fun e w'=>∃g h X,e=.returned (.tuple #[.agg (aG g h),.int .i64 0])/\fF w.heap.size w' g h (uq cf) (ls cf2 X)/\Below w.heap.size w w':=by
 have HFT:=zh (fun V=>nR cf cf2 h1 h2 hd hb V);have HRS:=zh (fun V=>lg cf cf2 #[.int .u32 0,.bool false,.slice none 0 0,.slice none 0 0] #[.int .u64 0,.int .u64 0,.slice none 0 0] rfl rfl (uq cf) 0 0 [] V (fun U _=>tH cf h1 U) (fun U _=>sU cf2 h2 U));have HSA:Hid ((Tryz.prog.info? 25).map (·.size)=some cf.arr.toList.length):=zh (by rw[Array.length_toList,cf.arr_size];exact aM);have HSB:Hid ((Tryz.prog.info? 25).map (·.size)=some cf2.arr.toList.length):=zh (by rw[Array.length_toList,cf2.arr_size];exact aM);have HUC:=zh Tryz.underlying25;obtain⟨CA,hCA⟩:=af cf.arr
 obtain⟨CB,hCB⟩:=af cf2.arr
 rw[<-hCA]at HFT HRS HSA ⊢;rw[<-hCB]at HFT HRS HSB ⊢;clear hCA hCB h1 h2 hd hb;go_enter Tryz.func8,Tryz.ntmps8;go_upto_region 1 with (fail)
 obtain⟨kb,hkb⟩:=af w.heap.size
 have HKB:=zh hkb;refine ag (fun V=>ae V kb 25 CA/\ae V (kb+1) 25 CB/\ae V (kb+1+1) 36 #[.pointer none,.pointer none]/\Below w.heap.size w V/\w.heap.size+3<=V.heap.size) ⟨by rw[hkb];exact((az _ _ _ _ rfl).alloc _).alloc _,by rw[hkb];exact(az _ _ _ _ (by simp)).alloc _,by rw[hkb];exact az _ _ _ _ (by simp),(((Below.refl _ w).alloc ao _).alloc (by simp) _).alloc (by simp;omega) _,by simp⟩ ?_;rintro V ⟨b0,b1,b4,b5,b6⟩;rw[<-hkb];have HB0:=zh b0;have HB1:=zh b1;have HB4:=zh b4;have HV:=zh b5;have HVS:=zh b6;have R0:=zh (show V.rangeAt kb 0 CA.toList from fun j y hy=>by rw[b0.cell,Nat.zero_add,<-hy,Array.getElem?_toList]);have R1:=zh (show V.rangeAt (kb+1) 0 CB.toList from fun j y hy=>by rw[b1.cell,Nat.zero_add,<-hy,Array.getElem?_toList]);clear b0 b1 b4 b5 b6 hkb;go_upto_region 3 with (first
  | (refine wpList_load_mid rfl 25 _ rfl kb 0 rfl CA.toList _ R0.out HUC.out rfl HSA.out ?_)
  | (refine wpList_load_mid rfl 25 _ rfl (kb+1) 0 rfl CB.toList _ R1.out HUC.out rfl HSB.out ?_)
  | (go_at_call 33;refine(HFT.out _).mono ?_;rintro e w1 ⟨rfl,hb⟩;have B1:=zh hb;clear hb))
 have c0:=HB0.out.below B1.out HB0.out.lt;have c1:=HB1.out.below B1.out HB1.out.lt;have C4:=zh (HB4.out.below B1.out HB4.out.lt);have X1:=zh (HV.out.trans (B1.out.mono HV.out.size));have S0:=zh (show w1.rangeAt kb 0 CA.toList from fun j y hy=>by rw[c0.cell,Nat.zero_add,<-hy,Array.getElem?_toList]);have S1:=zh (show w1.rangeAt (kb+1) 0 CB.toList from fun j y hy=>by rw[c1.cell,Nat.zero_add,<-hy,Array.getElem?_toList]);clear c0 c1;go_wp2_with (first
  | (refine wpList_load_mid rfl 25 _ rfl kb 0 rfl CA.toList _ S0.out HUC.out rfl HSA.out ?_)
  | (refine wpList_load_mid rfl 25 _ rfl (kb+1) 0 rfl CB.toList _ S1.out HUC.out rfl HSB.out ?_)
  | (go_at_call 34;refine(HRS.out _).mono ?_;rintro e w2 ⟨g,h,X,rfl,hS,hb⟩;have HSR:=zh hS;have D4:=zh (C4.out.below hb C4.out.lt);have X2:=zh (X1.out.trans (hb.mono X1.out.size));clear hS hb;unfold aG)
  | (refine wpList_store_row rfl _ _ _ rfl (kb+1+1) (aG g h) rfl rfl 36 _ D4.out (cO g h) rfl (fJ g h) ?_))
 have hB5:=ae.setRow (ds:=aG g h) D4.out;have HK5:=aa.setRow (F:=fun k=>k=kb+1+1) (aa.of_below (Below.refl _ w2)) rfl (aG g h);refine bodyPost_ret (v:=.tuple #[.agg (aG g h),.int .i64 0]) (aO (g:=kb+1+1) (t:=36) (fr:=(0,0)) Tryz.results8 _ _ (aG g h) _ rfl hB5 Tryz.underlying36 rfl (cO g h) _ rfl) rfl ⟨g,h,X,rfl,(HSR.out.keep HK5 (fun k hk=>by have:=HKB.out;have:=HVS.out;have:=B1.out.size;omega)).mono (by have:=HVS.out;have:=B1.out.size;omega),aj X2.out (by have:=HKB.out;omega) _⟩
end Go.Proofs.YtiiojpnckbglcaaGreat

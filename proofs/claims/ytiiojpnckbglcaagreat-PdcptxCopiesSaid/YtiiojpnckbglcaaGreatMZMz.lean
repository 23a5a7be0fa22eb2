import Derived.Test.YtiiojpnckbglcaaGreatMZAz
import Derived.Laws.StructEq
import Derived.ChangeKeysEq
set_option maxRecDepth 100000
set_option maxHeartbeats 1600000
set_option linter.unusedVariables false
set_option linter.unusedSimpArgs false
namespace Go.Proofs.YtiiojpnckbglcaaGreat
open Go.RowKit
attribute [local go_sem ↓] Go.wp_at_zero Go.wp_at_succ
def tv (w:World) (A:Option Addr) (k:Nat) (ct:Int) (n:Nat) (z:Nat->Int):Prop:=
 ∃lb lo PA pc,A=some ⟨lb,lo,none⟩/\lb < w.heap.size/\w.cell? ⟨lb,lo+k*2,none⟩=some (.int .u32 ct)/\w.cell? ⟨lb,lo+k*2+1,none⟩=some (.slice PA n pc)/\av w w.heap.size PA n (fun j=>.int .u8 (z j))
def tu (w:World) (A:Option Addr) (k:Nat) (n:Nat) (z:Nat->Int):Prop:=
 ∃lb lo PA pc,A=some ⟨lb,lo,none⟩/\lb < w.heap.size/\w.cell? ⟨lb,lo+k,none⟩=some (.slice PA n pc)/\av w w.heap.size PA n (fun j=>.int .u8 (z j))
theorem tv.below {w w':World} {A:Option Addr} {k:Nat} {ct:Int} {n:Nat} {z:Nat->Int} (h:tv w A k ct n z) (hb:Below w.heap.size w w'):tv w' A k ct n z:=by
 obtain⟨lb,lo,PA,pc,h1,h2,h3,h4,h5⟩:=h
 exact⟨lb,lo,PA,pc,h1,bg h2 hb.size,(hb.cell (p:=⟨lb,lo+k*2,none⟩) h2).trans h3,(hb.cell (p:=⟨lb,lo+k*2+1,none⟩) h2).trans h4,h5.next hb⟩
theorem tu.below {w w':World} {A:Option Addr} {k:Nat} {n:Nat} {z:Nat->Int} (h:tu w A k n z) (hb:Below w.heap.size w w'):tu w' A k n z:=by
 obtain⟨lb,lo,PA,pc,h1,h2,h3,h5⟩:=h
 exact⟨lb,lo,PA,pc,h1,bg h2 hb.size,(hb.cell (p:=⟨lb,lo+k,none⟩) h2).trans h3,h5.next hb⟩
def jO (w:World) (A A':Option Addr) (m:Nat):Prop:=∀k,k < m->∃ct n z z',tv w A k ct n z/\tv w A' k ct n z'/\∀j,j < n->z j=z' j
def jx (w:World) (A A':Option Addr) (m:Nat):Prop:=∀k,k < m->∃n z z',tu w A k n z/\tu w A' k n z'/\∀j,j < n->z j=z' j
theorem jO.below {w w':World} {A A':Option Addr} {m:Nat} (h:jO w A A' m) (hb:Below w.heap.size w w'):jO w' A A' m:=fun k hk=>by
 obtain⟨ct,n,z,z',h1,h2,h3⟩:=h k hk
 exact⟨ct,n,z,z',h1.below hb,h2.below hb,h3⟩
theorem jx.below {w w':World} {A A':Option Addr} {m:Nat} (h:jx w A A' m) (hb:Below w.heap.size w w'):jx w' A A' m:=fun k hk=>by
 obtain⟨n,z,z',h1,h2,h3⟩:=h k hk
 exact⟨n,z,z',h1.below hb,h2.below hb,h3⟩
theorem l9 (A A':Option Addr) (m c c':Nat) (w:World) (hm:m<=maxLen) (h:jO w A A' m) :
  Calls Tryz.prog 47 #[.slice A m c,.slice A' m c'] w fun e w'=>e=.returned (.bool true)/\Below w.heap.size w w':=by
 unfold maxLen at hm;have HS:=Lib.hid h;have hm':(m:Int)<=9223372036854775807:=by omega
 clear h;go_enter Tryz.func47,Tryz.ntmps47;go_wp2;go_loopw [5] (fun v wr=>∃k:Nat,k<=m/\v=.int .i64 k/\Below w.heap.size w wr) (fun v _=>m-(intOf v).toNat)
 case atStart=>exact⟨0,by omega,rfl,Below.refl _ _⟩
 case round=>
  obtain⟨k,hk,rfl,hb⟩:=hrel;by_cases hlt:k < m
  ·obtain⟨ct,n,z,z',⟨lb,lo,PA,pc,rfl,h2,h3,h4,h5⟩,⟨lb',lo',PA',pc',rfl,k2,k3,k4,k5⟩,he⟩:=(HS.out.below hb) k hlt;have s1:=fun q=>cI (P:=Tryz.prog) (w:=wr.drewN q) 44 9 5 Tryz.underlying44 Tryz.underlying5 Tryz.underlying9 (show av (wr.drewN q) wr.heap.size PA n (fun j=>.int .u8 (z j))from h5) pc;have s2:=fun q=>cI (P:=Tryz.prog) (w:=wr.drewN q) 44 9 5 Tryz.underlying44 Tryz.underlying5 Tryz.underlying9 (show av (wr.drewN q) wr.heap.size PA' n (fun j=>.int .u8 (z' j))from k5) pc';rw[<-fj he]at s2;have BB:=Lib.hid hb;have k0:(0:Int)<=(k:Int):=by omega
   have k1:(k:Int) < (m:Int):=by omega
   clear h5 k5 he hb;go_upto_region 6 with (fail)
   have hg:(ct != ct)=false:=by simp
   go_quiet (fail);go_wp2;go_roundw
   case rel=>exact⟨k+1,by omega,by go_num,an BB.out _⟩
   case measure=>simp[intOf];omega
  ·obtain rfl:k=m:=by omega
   have BB:=Lib.hid hb;clear hb;go_wp2;go_ret
   exact⟨rfl,BB.out⟩
theorem mO (A A':Option Addr) (m c c':Nat) (w:World) (hm:m<=maxLen) (h:jx w A A' m) :
  Calls Tryz.prog 48 #[.slice A m c,.slice A' m c'] w fun e w'=>e=.returned (.bool true)/\Below w.heap.size w w':=by
 unfold maxLen at hm;have HS:=Lib.hid h;have hm':(m:Int)<=9223372036854775807:=by omega
 clear h;go_enter Tryz.func48,Tryz.ntmps48;go_wp2;go_loopw [5] (fun v wr=>∃k:Nat,k<=m/\v=.int .i64 k/\Below w.heap.size w wr) (fun v _=>m-(intOf v).toNat)
 case atStart=>exact⟨0,by omega,rfl,Below.refl _ _⟩
 case round=>
  obtain⟨k,hk,rfl,hb⟩:=hrel;by_cases hlt:k < m
  ·obtain⟨n,z,z',⟨lb,lo,PA,pc,rfl,h2,h3,h5⟩,⟨lb',lo',PA',pc',rfl,k2,k3,k5⟩,he⟩:=(HS.out.below hb) k hlt;have s1:=fun q=>cI (P:=Tryz.prog) (w:=wr.drewN q) 44 9 5 Tryz.underlying44 Tryz.underlying5 Tryz.underlying9 (show av (wr.drewN q) wr.heap.size PA n (fun j=>.int .u8 (z j))from h5) pc;have s2:=fun q=>cI (P:=Tryz.prog) (w:=wr.drewN q) 44 9 5 Tryz.underlying44 Tryz.underlying5 Tryz.underlying9 (show av (wr.drewN q) wr.heap.size PA' n (fun j=>.int .u8 (z' j))from k5) pc';rw[<-fj he]at s2;have BB:=Lib.hid hb;have k0:(0:Int)<=(k:Int):=by omega
   have k1:(k:Int) < (m:Int):=by omega
   clear h5 k5 he hb;go_upto_region 6 with (fail)
   go_quiet (fail);go_wp2;go_roundw
   case rel=>exact⟨k+1,by omega,by go_num,an BB.out _⟩
   case measure=>simp[intOf];omega
  ·obtain rfl:k=m:=by omega
   have BB:=Lib.hid hb;clear hb;go_wp2;go_ret
   exact⟨rfl,BB.out⟩
theorem mu (nx:Int) (us:Bool) (A A' C C':Option Addr) (m c c' mq d d':Nat) (w:World) (hm:m<=maxLen) (hmq:mq<=maxLen) (h:jO w A A' m) (h2:jx w C C' mq) :
  Calls Tryz.prog 14 #[.agg #[.int .u32 nx,.bool us,.slice A m c,.slice C mq d],.agg #[.int .u32 nx,.bool us,.slice A' m c',.slice C' mq d']] w fun e w'=>e=.returned (.bool true)/\Below w.heap.size w w':=by
 have HC:=Lib.hid (fun(V:World) (hb:Below w.heap.size w V)=>l9 A A' m c c' V hm (h.below hb));have HL:=Lib.hid (fun(V:World) (hb:Below w.heap.size w V)=>mO C C' mq d d' V hmq (h2.below hb));clear h h2 hm hmq;go_enter Tryz.func14,Tryz.ntmps14;go_upto_region 1 with (fail)
 refine ah (fun V=>ae V w.heap.size 30 #[.int .u32 nx,.bool us,.slice A m c,.slice C mq d]/\ae V (w.heap.size+1) 30 #[.int .u32 nx,.bool us,.slice A' m c',.slice C' mq d']/\Below w.heap.size w V) ⟨(ae.new _ _ _).alloc _,dy _ _ _ _ (by simp),((Below.refl _ w).alloc aB _).alloc (by simp) _⟩ ?_;rintro W1 ⟨b1,b2,b3⟩;obtain⟨fa,hfa⟩:=af w.heap.size
 have B1:=Lib.hid b1;have B2:=Lib.hid b2;have B3:=Lib.hid b3;have x0:=b1.cell 0;have x1:=b1.cell 1;have x2:=b1.cell 2;have x3:=b1.cell 3;have y0:=b2.cell 0;have y1:=b2.cell 1;have y2:=b2.cell 2;have y3:=b2.cell 3;simp at x0 x1 x2 x3 y0 y1 y2 y3;clear b1 b2 b3 hfa;go_wp2_with (first
  | (go_at_call 47;refine(HC.out _ B3.out).mono ?_;rintro e w2 ⟨rfl,hb⟩;have B4:=Lib.hid (B3.out.trans (hb.mono B3.out.size));have P1:=B1.out.below hb B1.out.lt;have P2:=B2.out.below hb B2.out.lt;have u3:=P1.cell 3;have v3:=P2.cell 3;simp at u3 v3;clear hb P1 P2)
  | (go_at_call 48;refine(HL.out _ B4.out).mono ?_;rintro e w3 ⟨rfl,hb⟩;have B5:=Lib.hid (B4.out.trans (hb.mono B4.out.size));clear hb))
 go_ret
 exact⟨rfl,B5.out⟩
theorem tc:Tryz.prog.cellsOf 5 = 1:=by kernel_rfl
theorem pq (f:Nat->Int) (i:Nat) (hi:i < 16) (w:World):(part 5 (aq f) (i*1)).run Tryz.prog w=.ok (.int .u8 (f i)) w:=by
 obtain⟨q,hq,_,hqs,_⟩:=info_parts Tryz.infoByte;have h:=eP f i hi;simp[part,Sem.run_bind,sizeOf,typeInfo,hq,hqs,h]
def gI (f g:Nat->Int):Bool:=(List.range 16).all fun j=>decide (f j=g j)
theorem lH (f g:Nat->Int) (d:Nat):∀(is:List Nat) (_:∀i,i∈is->i < 16) (w:World),(Op.eqItems (d+1) 5 1 (aq f) (aq g) is).run Tryz.prog w=.ok (is.all fun j=>decide (f j=g j)) w
 | [],_,w=>by simp[Op.eqItems]
 | i :: is,h,w=>by
  simp only[Op.eqItems,Sem.run_bind,pq f i (h i (by simp)) w,pq g i (h i (by simp)) w,Result.andThen_ok];have hr:=lH f g d is (fun j hj=>h j (by simp[hj])) w;by_cases e:f i=g i
  ·simp[go_sem,hr,e]
  ·have e2:(f i == g i)=false:=by simpa using e
   simp[go_sem,e,e2]
theorem tO (f g:Nat->Int) (d:Nat) (w:World):(Op.equalIn (d+2) 23 (.agg (aq f)) (.agg (aq g))).run Tryz.prog w=.ok (gI f g) w:=by
 obtain⟨q,hq,_⟩:=info_parts Tryz.infoByte;rw[run_equalIn_array w (d+1) (aq f) (aq g) Tryz.underlying23 hq,tc,lH f g d (List.range 16) (fun i hi=>by simpa using hi) w]
 rfl
def qj (f:Nat->Int):List (Nat->Int)->Nat->Option Nat
 | [],_=>none
 | g :: gs,i=>if gI f g=true then some i else qj f gs (i+1)
def du (f:Nat->Int) (U:List (Nat->Int)):Bool:=U.any (gI f)
theorem kt (f:Nat->Int):∀(U:List (Nat->Int)) (i:Nat),(qj f U i).isSome=du f U
 | [],_=>rfl
 | g :: gs,i=>by
  have:=kt f gs (i+1);unfold qj du;rw[List.any_cons];by_cases h:gI f g=true
  ·rw[if_pos h,h];rfl
  ·have h2:gI f g=false:=by simpa using h
   rw[if_neg h,h2,this];rfl
theorem sx (f:Nat->Int) (w:World):∀(es:List MapEntry) (U:List (Nat->Int)) (_:es.map (·.key)=(U.map aq).map Value.agg) (_:∀e,e∈es->e.val=.bool true) (i:Nat),(Instr.findAsking 23 (.agg (aq f)) es i).run Tryz.prog w=.ok ((qj f U i).map fun j=>(j,.bool true)) w
 | [],[],_,_,_=>by simp[Instr.findAsking,qj]
 | [],g :: gs,h,_,_=>by cases h
 | e :: es,[],h,_,_=>by cases h
 | e :: es,g :: gs,h,hv,i=>by
  simp only[List.map_cons,List.cons.injEq]at h;have ih:=sx f w es gs h.2 (fun e he=>hv e (by simp[he])) (i+1);have hq:(Op.equal 23 (.agg (aq f)) e.key).run Tryz.prog w=.ok (gI f g) w:=by
   rw[h.1]
   exact tO f g 9998 w
  unfold Instr.findAsking qj;by_cases hfg:gI f g=true
  ·rw[hfg]at hq;simp[hq,hfg,hv e (by simp)]
  ·have h2:gI f g=false:=by simpa using hfg
   rw[h2]at hq;simp[hq,h2,ih]
theorem lr (e:Bool) (f:Nat->Int) (W:World):(Instr.checkKey e 10000 23 (.agg (aq f))).run Tryz.prog W=.ok () W:=by
 cases e<;>kernel_rfl
theorem pD (f:Nat->Int) (w:World) (es:List MapEntry) (U:List (Nat->Int)) (h:es.map (·.key)=(U.map aq).map Value.agg) (hv:∀e,e∈es->e.val=.bool true):(Instr.findKey 23 (.agg (aq f)) es).run Tryz.prog w=.ok ((qj f U 0).map fun j=>(j,.bool true)) w:=by
 unfold Instr.findKey;simp only[Sem.run_bind,run_underlying Tryz.underlying23,Result.andThen_ok]
 cases es with
 | nil=>
  cases U with
  | nil=>simp[Instr.findNow,qj]
  | cons g gs=>cases h
 | cons e es=>
  have hn:∀d,Instr.findNow (.array 16 d) (.agg (aq f)) (e :: es) 0=none:=fun d=>by
   unfold Instr.findNow
   rfl
  rw[hn]
  exact sx f w (e :: es) U h hv 0
theorem kS (W:World) (m:Nat) (U:List (Nat->Int)) (f:Nat->Int) (h:UK W m (U.map aq)):(Instr.lookup 85 (.map (some m)) (.agg (aq f)) false).run Tryz.prog W=.ok (.bool (du f U)) W:=by
 obtain⟨es,c,h1,h2,h3⟩:=h;have hf:=pD f W es.toList U h2 h3;have hc:=fun e=>lr e f W;have hz:(zeroValue 4).run Tryz.prog W=.ok (.bool false) W:=by kernel_rfl
 have hh:=kt f U 0
 cases hk:qj f U 0 with
 | none=>
  rw[hk]at hf hh;have hh:du f U=false:=hh.symm;simp only[Option.map_none]at hf;simp[Instr.lookup,run_underlying Tryz.underlying85,MapKept.run_getObj_map h1,hc,hf,hz,hh]
 | some j=>
  rw[hk]at hf hh;have hh:du f U=true:=hh.symm;simp only[Option.map_some]at hf;simp[Instr.lookup,run_underlying Tryz.underlying85,MapKept.run_getObj_map h1,hc,hf,hh]
theorem tG (W:World) (m:Nat) (U:List (Nat->Int)) (f:Nat->Int) (h:UK W m (U.map aq)) (hno:du f U=false):∃X,(Instr.mapUpdate 85 (.map (some m)) (.agg (aq f)) (.bool true)).run Tryz.prog W=.ok () X/\UK X m ((U++[f]).map aq)/\aa (fun k=>k=m) W X:=by
 obtain⟨es,c,h1,h2,h3⟩:=h;have hf:=pD f W es.toList U h2 h3;have hh:=kt f U 0;rw[hno]at hh;have hk:qj f U 0=none:=by
  cases hk:qj f U 0 with
  | none=>rfl
  | some j=>rw[hk]at hh;cases hh
 rw[hk]at hf;simp only[Option.map_none]at hf;have hlt:m < W.heap.size:=(Array.getElem?_eq_some_iff.1 h1).1;refine⟨W.putObj m (.map (es.push { key:=.agg (aq f),val:=.bool true,born:=c }) (c+1)),?_,⟨_,_,World.putObj_heap_same hlt,by simp[h2],fun e he=>?_⟩,aa.of_row (grownBy_putObj' W m _) rfl⟩
 ·simp[Instr.mapUpdate,run_underlying Tryz.underlying85,MapKept.run_getObj_map h1,lr false f W,hf,MapKept.run_setObj_map _ h1,Result.andThen,World.putObj]
 ·rcases Array.mem_push.1 (Array.mem_toList_iff.1 he)with h | h
  ·exact h3 e (Array.mem_toList_iff.2 h)
  ·rw[h]
theorem oE {F:Nat->Prop} {w w':World} (h:aa F w w') {g:Nat} (hg:F g) (cs:Array Value):aa F w (w'.setRow g cs):=by
 have hb:=ai (Below.refl 0 w') (Nat.zero_le g) cs
 exact⟨hb.os.trans h.os,hb.tape.trans h.tape,hb.output.trans h.output,bj h.size hb.size,fun k hk hn=>(setRow_other _ _ _ _ (fun e=>hn (by rw[e];exact hg))).trans (h.block k hk hn)⟩
def jh (o:Obj):Prop:=∃X:Array Value,o=.cells X 137 (0,0)/\X.size=226/\X[0]? = some (.bool true)
theorem px:(Tryz.prog.info? 137).map (·.size)=some 226:=by kernel_rfl
theorem pm:(tz.setIfInBounds 0 (.bool true)).all (·.oneCell')=true:=by kernel_rfl
theorem qO (cb:Nat) (o:Obj) (w:World) (h:w.heap[cb]? = some o) (ho:jh o):Calls Tryz.prog 88 #[.pointer (some ⟨cb,0,none⟩)] w fun e w'=>e=.returned (.bool false)/\w=w':=by
 obtain⟨X,rfl,hs,h0⟩:=ho;have c0:w.cell? ⟨cb,0,none⟩=some (.bool true):=(ae.cell (show ae w cb 137 X from h) 0).trans h0;clear h;go_enter Tryz.func88,Tryz.ntmps88;go_wp2;go_ret
 exact⟨rfl,rfl⟩
theorem oH (cb:Nat) (o:Obj) (w:World) (h:w.heap[cb]? = some o) (ho:jh o):Calls Tryz.prog 62 #[.pointer (some ⟨cb,0,none⟩)] w fun e w'=>e=.returned (.int .i64 0)/\w'.heap[cb]? = some eF/\aa (fun k=>k=cb) w w':=by
 have HNO:=Lib.hid (fun V hV=>qO cb o V hV ho);have HNW:=Lib.hid (fun V=>dh V);obtain⟨X,hX,hs,h0⟩:=ho;have HH:=Lib.hid h;have HB:Hid (ae w cb 137 X):=Lib.hid (h.trans (by rw[hX]));obtain⟨N,hN⟩:=af (tz.setIfInBounds 0 (.bool true))
 have HN:=Lib.hid hN;have HNS:Hid (N.size=226):=Lib.hid (by rw[hN,Array.size_setIfInBounds,iX]);have HSZ:Hid ((Tryz.prog.info? 137).map (·.size)=some N.size):=Lib.hid (by rw[HNS.out];exact px);have HXN:Hid (X.size=N.size):=Lib.hid (by rw[HNS.out,hs]);have HO:Hid (N.all (·.oneCell')=true):=Lib.hid (by rw[hN];exact pm);have HCN:Hid (eF=.cells N 137 (0,0)):=Lib.hid (by rw[hN];rfl);have HU:=Lib.hid Tryz.underlying137;clear h hX h0 hs hN;go_enter Tryz.func62,Tryz.ntmps62;go_upto_region 3 with (go_at_call 88;refine(HNO.out _ HH.out).mono ?_;rintro e w1 ⟨rfl,rfl⟩)
 go_upto_region 4 with (first
  | (go_at_call 38;refine(HNW.out _).mono ?_;rintro e w1 ⟨rfl,hA⟩;have WA:=Lib.hid hA.symm;have HNB:Hid (ae w1 w.heap.size 137 N):=Lib.hid (by rw[<-hA,HCN.out];exact ae.new _ _ _);have HB1:Hid (ae w1 cb 137 X):=Lib.hid (by rw[<-hA];exact HB.out.alloc _);clear hA)
  | (refine wpList_load_row rfl _ _ rfl w.heap.size rfl 137 N (0,0) _ HNB.out HU.out rfl HSZ.out ?_)
  | (refine wpList_store_row rfl _ _ _ rfl cb N rfl rfl 137 X HB1.out HSZ.out HXN.out HO.out ?_))
 try simp only[Act.put]
 refine ah (fun V=>V.heap[cb]? = some eF/\aa (fun k=>k=cb) w V) ⟨by rw[HCN.out];exact setRow_heap _ _ _ N 137 (0,0) HB1.out,oE (F:=fun k=>k=cb) (by rw[WA.out];exact aa.refl.alloc _) rfl _⟩ ?_;rintro V ⟨v1,v2⟩;have V1:=Lib.hid v1;have V2:=Lib.hid v2;clear v1 v2;go_wp2;go_ret
 exact⟨rfl,V1.out,V2.out⟩
def aP.keys (C:aP) (f c:Nat->Int):aP:={ C with key:=f,code:=c }
theorem jS {w:World} {g:Nat} {t:TypeId} {cs:Array Value} (h:ae w g t cs) (o n:Nat) (hn:o+n<=cs.size):w.there g o n:=fun j hj=>⟨by rw[h.cell,Array.getElem?_eq_getElem (by omega)];rfl,h.frozen _⟩
theorem gw (f:Nat->Int):(Tryz.prog.info? 23).map (·.size)=some (aq f).toList.length:=by kernel_rfl
theorem nP (f:Nat->Int):(aq f).all (·.oneCell')=true:=by kernel_rfl
end Go.Proofs.YtiiojpnckbglcaaGreat

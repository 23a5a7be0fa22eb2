import Derived.Test.YtjanmleoomoedaaGreatMGC
import Derived.Maps.OwnSet
import Derived.Deep.RegionHeld3
namespace Go.Proofs.YtjanmleoomoedaaGreat
open Go.RowKit
set_option linter.unusedVariables false
attribute [local go_sem ↓] Go.wp_at_zero Go.wp_at_succ
private theorem zh {p:Prop} (h:p):Hid p:=h
private theorem tkH {P:Program} {ops:Array Oper} {Q:Exit→Act→World→Prop} {md:Region.Mode} {S:World→Prop} {i:Nat} {oi:Oper} {v:Value} {fuel:Nat} {listed l':Array Bool} {a a':Act} {w:World} (hi:ops[i]? = some oi) (hy:YieldsIf P ops S oi v a) (hS:S w)
  (h:wpAnyH P md ops Q S fuel l' a' w) (hl:listed.setIfInBounds i true=l':=by(try simp only[List.setIfInBounds_toArray,List.set_cons_zero,List.set_cons_succ]);rfl) (ha:a.put oi.dst v=a':=by(try simp only[Act.put,List.setIfInBounds_toArray,List.set_cons_zero,List.set_cons_succ]);rfl) (hs:Region.noSelect ops=true:=by kernel_rfl) (hf:Region.free md ops listed i=true:=by kernel_rfl) (hr:(Region.ready md ops listed).contains i=true:=by kernel_rfl)
  (hQ:∀c a w,Q (.panic c) (a.put oi.dst v) w→Q (.panic c) a w:=by exact fun _ _ _ h=>h):wpAnyH P md ops Q S (fuel+1) listed a w:=by subst hl;subst ha;exact wpAnyH_take hi hs hf hr hQ hy hS h
def kArr (f:Nat→Int):Array Value:=#[.int .u8 (f 0),.int .u8 (f 1),.int .u8 (f 2),.int .u8 (f 3),.int .u8 (f 4),.int .u8 (f 5),.int .u8 (f 6),.int .u8 (f 7),.int .u8 (f 8),.int .u8 (f 9),.int .u8 (f 10),.int .u8 (f 11),.int .u8 (f 12),.int .u8 (f 13),.int .u8 (f 14),.int .u8 (f 15)]
theorem kArr_at (f:Nat→Int):∀j,j < 16→(kArr f)[j]? = some (.int .u8 (f j)):=fun j hj=>by
 rcases (by omega:j=0∨j=1∨j=2∨j=3∨j=4∨j=5∨j=6∨j=7∨j=8∨j=9∨j=10∨j=11∨j=12∨j=13∨j=14∨j=15)with rfl | rfl | rfl | rfl | rfl | rfl | rfl | rfl | rfl | rfl | rfl | rfl | rfl | rfl | rfl | rfl<;>rfl
def cfgLit (c:Cfg):Array Value:=#[.int .i64 c.b,.int .i64 c.d,.int .u8 (c.key 0),.int .u8 (c.key 1),.int .u8 (c.key 2),.int .u8 (c.key 3),.int .u8 (c.key 4),.int .u8 (c.key 5),.int .u8 (c.key 6),.int .u8 (c.key 7),.int .u8 (c.key 8),.int .u8 (c.key 9),.int .u8 (c.key 10),.int .u8 (c.key 11),.int .u8 (c.key 12),.int .u8 (c.key 13),.int .u8 (c.key 14),.int .u8 (c.key 15),.int .u8 (c.code 0),.int .u8 (c.code 1),.int .u8 (c.code 2),.int .u8 (c.code 3),.int .u8 (c.code 4),.int .u8 (c.code 5),.int .u8 (c.code 6),.int .u8 (c.code 7),.int .u8 (c.code 8),.int .u8 (c.code 9),.int .u8 (c.code 10),.int .u8 (c.code 11),.int .u8 (c.code 12),.int .u8 (c.code 13),.int .u8 (c.code 14),.int .u8 (c.code 15),.bool c.ig,.bool c.cm,.bool c.ac,.int .i64 c.ds,.int .i64 c.ro]
theorem cfgLit_eq (c:Cfg):c.arr=cfgLit c:=by kernel_rfl
theorem k_check (f:Nat→Int) (W:World):(Instr.checkKey false 10000 23 (.agg (kArr f))).run Tryz.prog W=.ok () W:=by kernel_rfl
theorem k_put0 (f:Nat→Int) (W:World) (m:Nat) (h:W.heap[m]? = some (.map #[] 0)):(Instr.mapUpdate 60 (.map (some m)) (.agg (kArr f)) (.bool true)).run Tryz.prog W=.ok () (W.putObj m (.map #[{ key:=.agg (kArr f),val:=.bool true,born:=0 }] 1)):=by
 have hf:∀W:World,(Instr.findKey 23 (.agg (kArr f)) []).run Tryz.prog W=.ok none W:=fun W=>by
  simp[Instr.findKey,run_underlying Tryz.underlying23,Instr.findNow,Result.andThen]
 simp[Instr.mapUpdate,run_underlying Tryz.underlying60,MapKept.run_getObj_map h,k_check,hf,MapKept.run_setObj_map _ h,Result.andThen,World.putObj]
def zc14 (k:Nat):Value:=if k=3∨k=9∨k=12 then .bool false else if k=10 then .int .u8 0 else .int .i64 0
def zcC:Array Value:=Array.ofFn (n:=226) fun j=>if j.1=0 then .bool false else if j.1=225 then .int .i64 0 else zc14 ((j.1-1) % 14)
theorem zcC_run (w:World):(zeroValue 111).run Tryz.prog w=.ok (.agg zcC) w:=by kernel_rfl
theorem zcC_size:zcC.size=226:=by kernel_rfl
theorem zcC_ne:¬zcC=#[]:=fun e=>by have:=zcC_size;rw[e]at this;cases this
def cNew:Obj:=.cells (zcC.setIfInBounds 0 (.bool true)) 111
theorem tcnew_ok (w:World):Calls Tryz.prog 21 #[] w fun e w'=>e=.returned (.pointer (some ⟨w.heap.size,0,none⟩))∧w.alloc cNew=w':=by
 have hr:=zcC_run
 have hn:=zcC_ne
 have hs:=zcC_size
 go_enter Tryz.func21,Tryz.ntmps21
 go_wp2
 go_ret
 exact⟨rfl,rfl⟩
def resQ (mq:Nat) (qn:Nat→Nat) (y:Nat→Nat→Int):List QV:=(List.range mq).map fun k=>⟨qn k,y k,0⟩
def resP (m:Nat) (ct:Nat→Int) (pn:Nat→Nat) (z:Nat→Nat→Int):List PV:=(List.range m).map fun k=>⟨ct k,pn k,z k,true⟩
def resS (cf:Cfg) (N:Int) (m:Nat) (ct:Nat→Int) (pn:Nat→Nat) (z:Nat→Nat→Int) (mq:Nat) (qn:Nat→Nat) (y:Nat→Nat→Int):TS:=⟨cf,0,N,resQ mq qn y,resP m ct pn z,[kArr cf.key],cNew⟩
def TxNew (cf:Cfg) (N:Int) (B:Nat) (w:World) (v:Value) (W:World):Prop:=
 ∃g ub cb,v=.pointer (some ⟨g,0,none⟩)∧TxM W g (resS cf N 0 (fun _=>0) (fun _=>0) (fun _ _=>0) 0 (fun _=>0) (fun _ _=>0)) (fun k=>k=g∨k=ub∨k=cb) (fun _=>False) none 0 [] none 0 [] ub cb∧B≤g∧B≤ub∧B≤cb∧Below B w W
set_option maxRecDepth 100000 in
set_option maxHeartbeats 1600000 in
theorem tresume_no (cf:Cfg) (A A2:Option Addr) (m c1 mq c2:Nat) (nx:Int) (us:Bool) (ct:Nat→Int) (PA:Nat→Option Addr) (pn pc:Nat→Nat) (z:Nat→Nat→Int) (QA:Nat→Option Addr) (qn qc:Nat→Nat) (y:Nat→Nat→Int) (w:World) (hnx:0≤nx∧nx < 4294967296) (hm:m≤maxLen) (hmq:mq≤maxLen)
  (h:Cnts w A m ct PA pn pc z) (hq:BRows w A2 mq QA qn qc y) (hno:¬(cf.Valid∧FOk cf.ac nx us m ct pn mq qn)) :
  Calls Tryz.prog 8 #[.agg cf.arr,.agg #[.int .u32 nx,.bool us,.slice A m c1,.slice A2 mq c2]] w fun e w'=>e=.returned (.tuple #[.pointer none,.int .i64 2])∧Below w.heap.size w w':=by
 have HV:=zh (fun W=>tvalid_ok cf W)
 have HW:=zh (fun(W:World) (hb:Below w.heap.size w W)=>tsvalid_ok cf A A2 m c1 mq c2 nx us ct PA pn pc z QA qn qc y W hnx hm hmq (h.below hb) (hq.below hb))
 have HNO:=zh hno
 have HS:Hid ((Tryz.prog.info? 25).map (·.size)=some cf.arr.size):=zh (by rw[cf.arr_size];exact infoPd)
 have HD:=zh (show decide cf.Valid=true↔cf.Valid from decide_eq_true_iff)
 obtain⟨V,hV⟩:∃V,V=decide cf.Valid:=⟨_,rfl⟩
 obtain⟨Z,hZ⟩:∃Z,Z=cf.arr:=⟨_,rfl⟩
 rw[←hV]at HD HV
 rw[←hZ]at HS HV HW ⊢
 have HU:=zh Tryz.underlying25
 clear h hq hno hV hZ hnx hm hmq
 go_enter Tryz.func8,Tryz.ntmps8
 go_upto_region 1 with (fail)
 refine wp_let (fun W=>Blk W w.heap.size 25 Z∧Blk W (w.heap.size+1) 30 #[.int .u32 nx,.bool us,.slice A m c1,.slice A2 mq c2]∧Below w.heap.size w W) ⟨(Blk.new _ _ _).alloc _,blk_atZ _ _ _ _ (by simp),((Below.refl _ w).alloc (Nat.le_refl _) _).alloc (by simp) _⟩ ?_
 rintro W1 ⟨b1,b2,b3⟩
 have B1:=zh b1
 have B2:=zh b2
 have B3:=zh b3
 clear b1 b2 b3
 rcases Bool.eq_false_or_eq_true V with hv | hv
 ·subst hv
  have HF:=zh (fun(W:World) (hb:Below w.heap.size w W)=>HW.out W hb false ⟨fun h=>(by cases h),fun h=>absurd ⟨HD.out.1 rfl,h⟩ HNO.out⟩)
  go_wp2_with (first
   | (refine wpList_load_row rfl _ _ rfl w.heap.size rfl 25 Z (0,0) _ B1.out HU.out rfl HS.out ?_)
   | (go_at_call 18;refine(HV.out _).mono ?_;rintro e w2 ⟨rfl,hB⟩;have E2:=zh hB;have D2:=zh (below_step B3.out hB);have x0:=(B2.out.below hB B2.out.lt).cell 0;have x1:=(B2.out.below hB B2.out.lt).cell 1;have x2:=(B2.out.below hB B2.out.lt).cell 2;have x3:=(B2.out.below hB B2.out.lt).cell 3;have B4:=zh (B1.out.below hB B1.out.lt);simp at x0 x1 x2 x3;clear hB)
   | (refine wpList_load_rowG (by rfl) _ _ rfl w.heap.size rfl 25 Z (0,0) _ B4.out HU.out rfl HS.out ?_)
   | (go_at_call 19;refine(HF.out _ D2.out).mono ?_;rintro e w3 ⟨rfl,hB⟩;have E3:=zh (below_step D2.out hB);clear hB))
  go_ret2
  exact⟨rfl,E3.out⟩
 ·subst hv
  go_wp2_with (first
   | (refine wpList_load_row rfl _ _ rfl w.heap.size rfl 25 Z (0,0) _ B1.out HU.out rfl HS.out ?_)
   | (go_at_call 18;refine(HV.out _).mono ?_;rintro e w2 ⟨rfl,hB⟩;have D2:=zh (below_step B3.out hB);clear hB))
  refine bodyPost_ret (v:=.tuple #[.pointer none,.int .i64 2]) (results_tmp2 (t:=4) (u:=5) rfl _ _ _) rfl ?_
  exact⟨rfl,D2.out⟩
theorem infoPend:∃i:TypeInfo,Tryz.prog.info? 69 = some i∧i.zero=some (.agg #[.int .u32 0,.slice none 0 0,.bool false])∧i.size=3∧i.bytes=40:=by
 have h:(Tryz.prog.info? 69).map (fun i=>(i.zero,i.size,i.bytes))=some (some (.agg #[.int .u32 0,.slice none 0 0,.bool false]),3,40):=by kernel_rfl
 cases hi:Tryz.prog.info? 69 with
 | none=>rw[hi]at h;cases h
 | some i=>
  rw[hi]at h
  simp only[Option.map_some,Option.some.injEq,Prod.mk.injEq]at h
  exact⟨i,rfl,h.1,h.2.1,h.2.2⟩
theorem infoWait:∃i:TypeInfo,Tryz.prog.info? 71 = some i∧i.zero=some (.agg #[.slice none 0 0,.int .i64 0])∧i.size=2∧i.bytes=32:=by
 have h:(Tryz.prog.info? 71).map (fun i=>(i.zero,i.size,i.bytes))=some (some (.agg #[.slice none 0 0,.int .i64 0]),2,32):=by kernel_rfl
 cases hi:Tryz.prog.info? 71 with
 | none=>rw[hi]at h;cases h
 | some i=>
  rw[hi]at h
  simp only[Option.map_some,Option.some.injEq,Prod.mk.injEq]at h
  exact⟨i,rfl,h.1,h.2.1,h.2.2⟩
theorem uk_one (W:World) (m:Nat) (hm:m < W.heap.size) (f:Nat→Int):UK (W.putObj m (.map #[{ key:=.agg (kArr f),val:=.bool true,born:=0 }] 1)) m [kArr f]:=
 ⟨_,_,World.putObj_heap_same hm,rfl,fun e he=>by
  have:e={ key:=.agg (kArr f),val:=.bool true,born:=0 }:=by simpa using he
  rw[this]⟩
theorem txnew_intro (cf:Cfg) (N:Int) (hN:0≤N∧N≤4294967296) (W:World) (g ub cb:Nat) (hB:Blk W g 66 (tArr cf.arr true 0 N (.slice none 0 0) (.slice none 0 0) ub cb)) (hu:UK W ub [kArr cf.key]) (hc:W.heap[cb]? = some cNew) (h1:cb ≠ g) (h2:cb ≠ ub) :
  TxM W g (resS cf N 0 (fun _=>0) (fun _=>0) (fun _ _=>0) 0 (fun _=>0) (fun _ _=>0)) (fun k=>k=g∨k=ub∨k=cb) (fun _=>False) none 0 [] none 0 [] ub cb:=
 ⟨hB,rfl,rfl,SL.nil _ _ _,SL.nil _ _ _,hu,hc,fun e he=>(by cases he),fun e he=>(by cases he),fun e he=>(by cases he),.inl rfl,.inr (.inl rfl),.inr (.inr rfl),fun a e=>(by cases e),fun a e=>(by cases e),h1,h2,fun a e=>(by cases e),fun a e=>(by cases e),
  fun k _ hr=>hr,fun k hk=>(by
   rcases hk with rfl | rfl | rfl
   ·exact hB.lt
   ·exact hu.lt
   ·exact(Array.getElem?_eq_some_iff.1 hc).1),fun k hr=>hr.elim,⟨by show(0:Int)≤0;decide,by show(0:Int) < 1073741824;decide⟩,hN⟩
theorem resP_succ (k:Nat) (ct:Nat→Int) (pn:Nat→Nat) (z:Nat→Nat→Int):resP (k+1) ct pn z=resP k ct pn z++[⟨ct k,pn k,z k,true⟩]:=by
 unfold resP
 rw[List.range_succ,List.map_append]
 rfl
theorem resQ_succ (k:Nat) (qn:Nat→Nat) (y:Nat→Nat→Int):resQ (k+1) qn y=resQ k qn y++[⟨qn k,y k,0⟩]:=by
 unfold resQ
 rw[List.range_succ,List.map_append]
 rfl
theorem resP_len (k:Nat) (ct:Nat→Int) (pn:Nat→Nat) (z:Nat→Nat→Int):(resP k ct pn z).length=k:=by simp[resP]
theorem resQ_len (k:Nat) (qn:Nat→Nat) (y:Nat→Nat→Int):(resQ k qn y).length=k:=by simp[resQ]
theorem KeepF.more {F:Nat→Prop} {w w1 w2:World} (h:KeepF F w w1) (hb:Below w1.heap.size w1 w2):KeepF F w w2:=h.trans (G:=fun _=>False) (KeepF.of_below hb) (fun _ _ h=>h.elim)
theorem Pkt.of_clone {w':World} {A:Option Addr} {n c:Nat} {z:Nat→Int} {R:Nat→Prop} (h1:1≤n) (h9:n≤9000) (hc:n≤c) (hz:∀j,j < n→0≤z j∧z j < 256) (hr:Row w' w'.heap.size A n (fun j=>.int .u8 (z j))):Pkt w' (fun k=>R k∨∃a,A=some a∧k=a.block) A n c z:=
 ⟨h1,h9,hc,hz,hr,fun a e=>.inr ⟨a,e,rfl⟩⟩
theorem row_lt {w:World} {B n:Nat} {A:Option Addr} {v:Nat→Value} (hr:Row w B A n v) (h1:1≤n) {a:Addr} (e:A=some a):a.block < B:=by
 obtain⟨b,off,e2,hb,_⟩:=hr (by omega)
 rw[e]at e2;cases e2
 exact hb
theorem fits_iff (n:Nat):fitsB n=true↔1≤n∧n≤9000:=by unfold fitsB;rw[decide_eq_true_iff]
structure RL (cf:Cfg) (N:Int) (B:Nat) (w:World) (g ub cb:Nat) (m:Nat) (ct:Nat→Int) (pn:Nat→Nat) (z:Nat→Nat→Int) (mq:Nat) (qn:Nat→Nat) (y:Nat→Nat→Int) (W R:Nat→Prop) (qA:Option Addr) (qc:Nat) (lq:List WE) (pA:Option Addr) (pc:Nat) (lp:List PE) (w':World):Prop where
 t:TxM w' g (resS cf N m ct pn z mq qn y) W R qA qc lq pA pc lp ub cb
 wB:∀k,W k→B≤k
 rB:∀k,R k→B≤k
 b:Below B w w'
set_option maxRecDepth 100000 in
set_option maxHeartbeats 12800000 in
theorem tresume_ok (cf:Cfg) (A A2:Option Addr) (m c1 mq c2:Nat) (nx:Int) (us:Bool) (ct:Nat→Int) (PA:Nat→Option Addr) (pn pc:Nat→Nat) (z:Nat→Nat→Int) (QA:Nat→Option Addr) (qn qc:Nat→Nat) (y:Nat→Nat→Int) (w:World) (hnx:0≤nx∧nx < 4294967296) (hm:m≤1000000) (hmq:mq≤1000000)
  (h:Cnts w A m ct PA pn pc z) (hq:BRows w A2 mq QA qn qc y) (hcv:cf.Valid) (hfo:FOk cf.ac nx us m ct pn mq qn) :
  Calls Tryz.prog 8 #[.agg cf.arr,.agg #[.int .u32 nx,.bool us,.slice A m c1,.slice A2 mq c2]] w fun e w'=>∃g W R,e=.returned (.tuple #[.pointer (some ⟨g,0,none⟩),.int .i64 0])∧TxI w' g (resS cf (nextOf nx us) m ct pn z mq qn y) W R∧(∀k,W k→w.heap.size≤k)∧(∀k,R k→w.heap.size≤k)∧Below w.heap.size w w':=by
 have HV:=zh (fun W=>tvalid_ok cf W)
 have HW:=zh (fun(W:World) (hb:Below w.heap.size w W)=>tsvalid_ok cf A A2 m c1 mq c2 nx us ct PA pn pc z QA qn qc y W hnx (by unfold maxLen;omega) (by unfold maxLen;omega) (h.below hb) (hq.below hb) true ⟨fun _=>hfo,fun _=>rfl⟩)
 have HNX:=zh (fun(W:World)=>tnext_ok nx us (.slice A m c1) (.slice A2 mq c2) W hnx)
 have HC:=zh h
 have HQ:=zh hq
 have HFO:=zh hfo
 have hd:decide cf.Valid=true:=decide_eq_true hcv
 rw[hd]at HV
 have HS:Hid ((Tryz.prog.info? 25).map (·.size)=some cf.arr.size):=zh (by rw[cf.arr_size];exact infoPd)
 have HKR0:=zh (show ∀j,j < 16→cf.arr[2+j]? = (kArr cf.key)[j]? from fun j hj=>by
  rw[cf.arr_at (by omega),kArr_at _ j hj]
  unfold Cfg.cell
  rw[if_neg (by omega),if_neg (by omega),if_pos (by omega),show 2+j-2=j by omega])
 obtain⟨N,hN⟩:∃N,N=nextOf nx us:=⟨_,rfl⟩
 have HNR:=zh (show 0≤N∧N≤4294967296 from by rw[hN];unfold nextOf;split<;>omega)
 rw[←hN]at HNX ⊢
 have HNN:=zh hN
 have HZE:=zh (cfgLit_eq cf)
 obtain⟨Z,hZ⟩:∃Z,Z=cf.arr:=⟨_,rfl⟩
 rw[←hZ]at HS HV HW HKR0 HZE ⊢
 have HZZ:=zh hZ
 have HU:=zh Tryz.underlying25
 have HUK:=zh Tryz.underlying23
 have hmm:=@run_makeMap Tryz.prog
 clear h hq hfo hcv hd hZ hN hnx
 go_enter Tryz.func8,Tryz.ntmps8
 go_upto_region 1 with (fail)
 refine wp_let (fun W=>Blk W w.heap.size 25 Z∧Blk W (w.heap.size+1) 30 #[.int .u32 nx,.bool us,.slice A m c1,.slice A2 mq c2]∧Below w.heap.size w W) ⟨(Blk.new _ _ _).alloc _,blk_atZ _ _ _ _ (by simp),((Below.refl _ w).alloc (Nat.le_refl _) _).alloc (by simp) _⟩ ?_
 rintro W1 ⟨b1,b2,b3⟩
 have B1:=zh b1
 have B2:=zh b2
 have B3:=zh b3
 clear b1 b2 b3
 go_upto_region 3 with (first
  | (refine wpList_load_row rfl _ _ rfl w.heap.size rfl 25 Z (0,0) _ B1.out HU.out rfl HS.out ?_)
  | (go_at_call 18;refine(HV.out _).mono ?_;rintro e w2 ⟨rfl,hB⟩;have E2:=zh hB;have D2:=zh (below_step B3.out hB);have x0:=(B2.out.below hB B2.out.lt).cell 0;have x1:=(B2.out.below hB B2.out.lt).cell 1;have x2:=(B2.out.below hB B2.out.lt).cell 2;have x3:=(B2.out.below hB B2.out.lt).cell 3;have B4:=zh (B1.out.below hB B1.out.lt);simp at x0 x1 x2 x3;clear hB)
  | (refine wpList_load_rowG (by rfl) _ _ rfl w.heap.size rfl 25 Z (0,0) _ B4.out HU.out rfl HS.out ?_)
  | (go_at_call 19;refine(HW.out _ D2.out).mono ?_;rintro e w3 ⟨rfl,hB⟩;have E3:=zh (below_step E2.out hB);have D3:=zh (below_step D2.out hB);clear hB))
 have BZ:=zh (B1.out.below E3.out B1.out.lt)
 have BS:=zh (B2.out.below E3.out B2.out.lt)
 obtain⟨zb,hzb⟩:∃zb,zb=w.heap.size:=⟨_,rfl⟩
 obtain⟨Bn,hBn⟩:∃Bn,Bn=w3.heap.size:=⟨_,rfl⟩
 rw[←hzb]at BZ BS x0 x1 x2 x3 ⊢
 have HZB:=zh hzb
 have hzl:zb+1 < Bn:=by rw[hBn];exact BS.out.lt
 have hbw:w.heap.size≤Bn:=by rw[hBn];exact D3.out.size
 have HZR:=zh (show ∀W,Below Bn w3 W→W.rangeAt zb 0 (cfgLit cf).toList from fun W hW=>((BZ.out.below hW (by omega)).range _ (by rw[HZE.out])))
 have HKR:=zh (show ∀W,Below Bn w3 W→W.rangeAt zb 2 (kArr cf.key).toList from fun W hW j v hv=>by
  have hj:j < 16:=by have:=(List.getElem?_eq_some_iff.1 hv).1;simpa[kArr]using this
  rw[(BZ.out.below hW (by omega)).cell (2+j),HKR0.out j hj]
  simpa using hv)
 have HSR:=zh (show ∀W,Below Bn w3 W→W.cell? ⟨zb+1,0,none⟩=some (.int .u32 nx)∧W.cell? ⟨zb+1,1,none⟩=some (.bool us)∧W.cell? ⟨zb+1,2,none⟩=some (.slice A m c1)∧W.cell? ⟨zb+1,3,none⟩=some (.slice A2 mq c2)from fun W hW=>⟨(BS.out.below hW hzl).cell 0,(BS.out.below hW hzl).cell 1,(BS.out.below hW hzl).cell 2,(BS.out.below hW hzl).cell 3⟩)
 have HS39:Hid ((Tryz.prog.info? 25).map (·.size)=some (cfgLit cf).toList.length):=zh infoPd
 have HS16:Hid ((Tryz.prog.info? 23).map (·.size)=some (kArr cf.key).toList.length):=zh (by kernel_rfl)
 clear x0 x1 x2 x3 hzb
 go_cut [6]from 20 to 29 (fun v wx=>TxNew cf N Bn w3 v wx)
 case first=>
  obtain⟨w0,hw0⟩:∃w0,w0=w3.drew:=⟨_,rfl⟩
  have hb0:Below Bn w3 w0:=by rw[hw0,hBn];exact(Below.refl _ w3).drew
  have hz0:Bn≤w0.heap.size:=by rw[hw0,hBn];exact Nat.le_refl _
  refine wp_region_held_drew (S:=fun w'=>Below Bn w3 w') (by kernel_rfl) (by rw[←hw0];exact hb0) (fun hHeld=>?_)
  rw[←hw0]
  clear hw0 hHeld
  have hHeld:=hb0
  refine' tkH (i:=0) (oi:=⟨some 20,_,_,_,_,_⟩) (v:=_) rfl (yieldsIf_load_mid (by rfl) _ _ rfl zb 0 rfl (cfgLit cf).toList _ (fun w h=>HZR.out w h) HU.out rfl HS39.out) (by assumption) ?_
  refine tkH (i:=1) (oi:=⟨some 21,_,_,_,_,_⟩) (v:=.agg #[.int .u32 nx,.bool us,.slice A m c1,.slice A2 mq c2]) rfl (Or.inl ⟨by rfl,fun W hW=>(by obtain⟨u0,u1,u2,u3⟩:=HSR.out W hW;go_simp)⟩) (by assumption) ?_
  refine tkH (i:=4) (oi:=⟨some 24,_,_,_,_,_⟩) (v:=.pointer (some ⟨zb,2,none⟩)) rfl (Or.inl ⟨by rfl,fun W hW=>(by go_simp)⟩) (by assumption) ?_
  refine' tkH (i:=5) (oi:=⟨some 25,_,_,_,_,_⟩) (v:=_) rfl (yieldsIf_load_mid (by rfl) _ _ rfl zb 2 rfl (kArr cf.key).toList _ (fun w h=>HKR.out w h) HUK.out rfl HS16.out) (by assumption) ?_
  refine wpAnyH_ready (rs:=[2,3]) (by kernel_rfl) (by simp) ?_
  refine AllReadyH.cons (o:=⟨some 22,_,_,_,_,_⟩) rfl (fun K hK=>?_) (AllReadyH.cons (o:=⟨some 23,_,_,_,_,_⟩) rfl (fun K hK=>?_) AllReadyH.nil)
  ·rw[if_pos (by rfl)]
   go_simp
   refine(HNX.out w0).mono ?_
   rintro e w1' ⟨rfl,hbk⟩
   dsimp only
   have hH2:Below Bn w3 w1':=hHeld.trans (hbk.mono hz0)
   have hz1:Bn≤w1'.heap.size:=Nat.le_trans hz0 hbk.size
   clear hbk
   refine hK.out _ _ hH2 (fun hHeld=>?_)
   clear hK K hH2
   try simp only[Act.put,List.setIfInBounds_toArray,List.set_cons_zero,List.set_cons_succ]
   refine wpAnyH_ready (rs:=[3,8]) (by kernel_rfl) (by simp) ?_
   refine AllReadyH.cons (o:=⟨some 23,_,_,_,_,_⟩) rfl (fun K hK=>?_) (AllReadyH.cons (o:=⟨some 27,_,_,_,_,_⟩) rfl (fun K hK=>?_) AllReadyH.nil)
   ·rw[if_pos (by rfl)]
    go_simp
    obtain⟨w2',hv⟩:∃X,X=w1'.alloc (.map #[] 0):=⟨_,rfl⟩
    obtain⟨mU,hb⟩:∃mU,mU=w1'.heap.size:=⟨_,rfl⟩
    have hH2:Below Bn w3 w2':=by rw[hv];exact hHeld.alloc hz1 _
    have hz2:Bn≤w2'.heap.size:=by rw[hv,World.size_alloc];omega
    have hbk:Below w1'.heap.size w1' w2':=by rw[hv];exact(Below.refl _ _).alloc (Nat.le_refl _) _
    have hM:w2'.heap[mU]? = some (.map #[] 0):=by rw[hv,hb];exact World.alloc_heap_new _ _
    have hMB:Bn≤mU:=by omega
    rw[←hv,←hb]
    clear hv hb hbk
    refine hK.out _ _ hH2 (fun hHeld=>?_)
    clear hK K hH2
    try simp only[Act.put,List.setIfInBounds_toArray,List.set_cons_zero,List.set_cons_succ]
    refine wpAnyH_ready (rs:=[6,8]) (by kernel_rfl) (by simp) ?_
    refine AllReadyH.cons (o:=⟨none,_,_,_,_,_⟩) rfl (fun K hK=>?_) (AllReadyH.cons (o:=⟨some 27,_,_,_,_,_⟩) rfl (fun K hK=>?_) AllReadyH.nil)
    ·rw[if_pos (by rfl)]
     go_simp
     have hpu:=k_put0 cf.key w2' mU hM
     rw[show(.agg (kArr cf.key):Value)=.agg (kArr cf.key).toList.toArray from rfl]at hpu
     have hU:=uk_one w2' mU (Array.getElem?_eq_some_iff.1 hM).1 cf.key
     have hkp:World.grownBy w2' (w2'.putObj mU (.map #[{ key:=.agg (kArr cf.key),val:=.bool true,born:=0 }] 1)) (some mU):=grownBy_putObj' _ _ _
     obtain⟨w3',hv⟩:∃X,X=w2'.putObj mU (.map #[{ key:=.agg (kArr cf.key),val:=.bool true,born:=0 }] 1):=⟨_,rfl⟩
     rw[←hv]at hkp hU
     have hH2:Below Bn w3 w3':=KeepF.below hHeld (KeepF.of_row (F:=fun k=>k=mU) hkp rfl) (fun k e=>by rw[e];exact hMB) hz2
     have hz3:Bn≤w3'.heap.size:=Nat.le_trans hz2 hkp.size
     go_simp
     rw[←hv]
     clear hv hkp hpu hM
     refine hK.out _ _ hH2 (fun hHeld=>?_)
     clear hK K hH2
     try simp only[Act.put,List.setIfInBounds_toArray,List.set_cons_zero,List.set_cons_succ]
     refine tkH (i:=7) (oi:=⟨some 26,_,_,_,_,_⟩) (v:=.map (some mU)) rfl (Or.inl ⟨by rfl,fun W hW=>(by rfl)⟩) (by assumption) ?_
     refine wpAnyH_ready (rs:=[8]) (by kernel_rfl) (by simp) ?_
     refine AllReadyH.cons (o:=⟨some 27,_,_,_,_,_⟩) rfl (fun K hK=>?_) AllReadyH.nil
     rw[if_pos (by rfl)]
     go_simp
     refine(tcnew_ok w3').mono ?_
     rintro e w4' ⟨rfl,hv⟩
     obtain⟨cb,hb⟩:∃cb,cb=w3'.heap.size:=⟨_,rfl⟩
     rw[←hb]
     dsimp only
     have hH2:Below Bn w3 w4':=by rw[←hv];exact hHeld.alloc hz3 _
     have hz4:Bn≤w4'.heap.size:=by rw[←hv,World.size_alloc];omega
     have hbk:Below w3'.heap.size w3' w4':=by rw[←hv];exact(Below.refl _ _).alloc (Nat.le_refl _) _
     have hC:w4'.heap[cb]? = some cNew:=by rw[←hv,hb];exact World.alloc_heap_new _ _
     have hCB:Bn≤cb:=by omega
     have hcm:mU ≠ cb:=by have:=hU.lt;omega
     replace hU:=hU.keep (hbk.block mU hU.lt)
     clear hv hb hbk
     refine hK.out _ _ hH2 (fun hHeld=>?_)
     clear hK K hH2
     try simp only[Act.put,List.setIfInBounds_toArray,List.set_cons_zero,List.set_cons_succ]
     refine tkH (i:=9) (oi:=⟨some 28,_,_,_,_,_⟩) (v:=.agg (tArr cf.arr true 0 N (.slice none 0 0) (.slice none 0 0) mU cb)) rfl (Or.inl ⟨by rfl,fun W hW=>(by kernel_rfl)⟩) (by assumption) ?_
     refine wpAnyH_ready (rs:=[10]) (by kernel_rfl) (by simp) ?_
     refine AllReadyH.cons (o:=⟨some 29,_,_,_,_,_⟩) rfl (fun K hK=>?_) AllReadyH.nil
     rw[if_pos (by rfl)]
     go_simp
     obtain⟨wv,hv⟩:∃wv,wv=w4'.alloc (.cells (tArr cf.arr true 0 N (.slice none 0 0) (.slice none 0 0) mU cb) 66):=⟨_,rfl⟩
     obtain⟨rb,hrb⟩:∃rb,rb=w4'.heap.size:=⟨_,rfl⟩
     have hR:Blk wv rb 66 (tArr cf.arr true 0 N (.slice none 0 0) (.slice none 0 0) mU cb):=by rw[hv,hrb];exact Blk.new _ _ _
     have hH2:Below Bn w3 wv:=by rw[hv];exact hHeld.alloc hz4 _
     have hbk:Below w4'.heap.size w4' wv:=by rw[hv];exact(Below.refl _ _).alloc (Nat.le_refl _) _
     replace hU:=hU.keep (hbk.block mU hU.lt)
     have hcl:=(Array.getElem?_eq_some_iff.1 hC).1
     replace hC:=(hbk.block cb hcl).trans hC
     have hne:cb ≠ rb:=by omega
     rw[←hv,←hrb]
     refine hK.out _ _ hH2 (fun hHeld=>?_)
     clear hK K
     try simp only[Act.put,List.setIfInBounds_toArray,List.set_cons_zero,List.set_cons_succ]
     refine tkH (i:=11) (oi:=⟨some 6,_,_,_,_,_⟩) (v:=.pointer (some ⟨rb,0,none⟩)) rfl (Or.inl ⟨by rfl,fun W hW=>(by rfl)⟩) (by assumption) ?_
     refine wpAnyH_done (by kernel_rfl) ?_ _
     go_wp2
     go_meet
     exact⟨rb,mU,cb,rfl,txnew_intro cf N HNR.out wv rb mU cb hR hU hC hne (fun e=>hcm e.symm),by omega,hMB,hCB,hH2⟩
    ·rw[if_pos (by rfl)]
     go_simp
     refine(tcnew_ok w2').mono ?_
     rintro e w3' ⟨rfl,hv⟩
     obtain⟨cb,hb⟩:∃cb,cb=w2'.heap.size:=⟨_,rfl⟩
     rw[←hb]
     dsimp only
     have hH2:Below Bn w3 w3':=by rw[←hv];exact hHeld.alloc hz2 _
     have hz3:Bn≤w3'.heap.size:=by rw[←hv,World.size_alloc];omega
     have hbk:Below w2'.heap.size w2' w3':=by rw[←hv];exact(Below.refl _ _).alloc (Nat.le_refl _) _
     have hC:w3'.heap[cb]? = some cNew:=by rw[←hv,hb];exact World.alloc_heap_new _ _
     have hCB:Bn≤cb:=by omega
     have hcm:mU ≠ cb:=by have:=(Array.getElem?_eq_some_iff.1 hM).1;omega
     replace hM:=(hbk.block mU (Array.getElem?_eq_some_iff.1 hM).1).trans hM
     clear hv hb hbk
     refine hK.out _ _ hH2 (fun hHeld=>?_)
     clear hK K hH2
     try simp only[Act.put,List.setIfInBounds_toArray,List.set_cons_zero,List.set_cons_succ]
     refine wpAnyH_ready (rs:=[6]) (by kernel_rfl) (by simp) ?_
     refine AllReadyH.cons (o:=⟨none,_,_,_,_,_⟩) rfl (fun K hK=>?_) AllReadyH.nil
     rw[if_pos (by rfl)]
     go_simp
     have hpu:=k_put0 cf.key w3' mU hM
     rw[show(.agg (kArr cf.key):Value)=.agg (kArr cf.key).toList.toArray from rfl]at hpu
     have hU:=uk_one w3' mU (Array.getElem?_eq_some_iff.1 hM).1 cf.key
     have hkp:World.grownBy w3' (w3'.putObj mU (.map #[{ key:=.agg (kArr cf.key),val:=.bool true,born:=0 }] 1)) (some mU):=grownBy_putObj' _ _ _
     obtain⟨w4',hv⟩:∃X,X=w3'.putObj mU (.map #[{ key:=.agg (kArr cf.key),val:=.bool true,born:=0 }] 1):=⟨_,rfl⟩
     rw[←hv]at hkp hU
     have hH2:Below Bn w3 w4':=KeepF.below hHeld (KeepF.of_row (F:=fun k=>k=mU) hkp rfl) (fun k e=>by rw[e];exact hMB) hz3
     have hz4:Bn≤w4'.heap.size:=Nat.le_trans hz3 hkp.size
     replace hC:=(hkp.block cb (Array.getElem?_eq_some_iff.1 hC).1 (fun e=>hcm (Option.some.inj e).symm)).trans hC
     go_simp
     rw[←hv]
     clear hv hkp hpu hM
     refine hK.out _ _ hH2 (fun hHeld=>?_)
     clear hK K hH2
     try simp only[Act.put,List.setIfInBounds_toArray,List.set_cons_zero,List.set_cons_succ]
     refine tkH (i:=7) (oi:=⟨some 26,_,_,_,_,_⟩) (v:=.map (some mU)) rfl (Or.inl ⟨by rfl,fun W hW=>(by rfl)⟩) (by assumption) ?_
     refine tkH (i:=9) (oi:=⟨some 28,_,_,_,_,_⟩) (v:=.agg (tArr cf.arr true 0 N (.slice none 0 0) (.slice none 0 0) mU cb)) rfl (Or.inl ⟨by rfl,fun W hW=>(by kernel_rfl)⟩) (by assumption) ?_
     refine wpAnyH_ready (rs:=[10]) (by kernel_rfl) (by simp) ?_
     refine AllReadyH.cons (o:=⟨some 29,_,_,_,_,_⟩) rfl (fun K hK=>?_) AllReadyH.nil
     rw[if_pos (by rfl)]
     go_simp
     obtain⟨wv,hv⟩:∃wv,wv=w4'.alloc (.cells (tArr cf.arr true 0 N (.slice none 0 0) (.slice none 0 0) mU cb) 66):=⟨_,rfl⟩
     obtain⟨rb,hrb⟩:∃rb,rb=w4'.heap.size:=⟨_,rfl⟩
     have hR:Blk wv rb 66 (tArr cf.arr true 0 N (.slice none 0 0) (.slice none 0 0) mU cb):=by rw[hv,hrb];exact Blk.new _ _ _
     have hH2:Below Bn w3 wv:=by rw[hv];exact hHeld.alloc hz4 _
     have hbk:Below w4'.heap.size w4' wv:=by rw[hv];exact(Below.refl _ _).alloc (Nat.le_refl _) _
     replace hU:=hU.keep (hbk.block mU hU.lt)
     have hcl:=(Array.getElem?_eq_some_iff.1 hC).1
     replace hC:=(hbk.block cb hcl).trans hC
     have hne:cb ≠ rb:=by omega
     rw[←hv,←hrb]
     refine hK.out _ _ hH2 (fun hHeld=>?_)
     clear hK K
     try simp only[Act.put,List.setIfInBounds_toArray,List.set_cons_zero,List.set_cons_succ]
     refine tkH (i:=11) (oi:=⟨some 6,_,_,_,_,_⟩) (v:=.pointer (some ⟨rb,0,none⟩)) rfl (Or.inl ⟨by rfl,fun W hW=>(by rfl)⟩) (by assumption) ?_
     refine wpAnyH_done (by kernel_rfl) ?_ _
     go_wp2
     go_meet
     exact⟨rb,mU,cb,rfl,txnew_intro cf N HNR.out wv rb mU cb hR hU hC hne (fun e=>hcm e.symm),by omega,hMB,hCB,hH2⟩
   ·rw[if_pos (by rfl)]
    go_simp
    refine(tcnew_ok w1').mono ?_
    rintro e w2' ⟨rfl,hv⟩
    obtain⟨cb,hb⟩:∃cb,cb=w1'.heap.size:=⟨_,rfl⟩
    rw[←hb]
    dsimp only
    have hH2:Below Bn w3 w2':=by rw[←hv];exact hHeld.alloc hz1 _
    have hz2:Bn≤w2'.heap.size:=by rw[←hv,World.size_alloc];omega
    have hbk:Below w1'.heap.size w1' w2':=by rw[←hv];exact(Below.refl _ _).alloc (Nat.le_refl _) _
    have hC:w2'.heap[cb]? = some cNew:=by rw[←hv,hb];exact World.alloc_heap_new _ _
    have hCB:Bn≤cb:=by omega
    clear hv hb hbk
    refine hK.out _ _ hH2 (fun hHeld=>?_)
    clear hK K hH2
    try simp only[Act.put,List.setIfInBounds_toArray,List.set_cons_zero,List.set_cons_succ]
    refine wpAnyH_ready (rs:=[3]) (by kernel_rfl) (by simp) ?_
    refine AllReadyH.cons (o:=⟨some 23,_,_,_,_,_⟩) rfl (fun K hK=>?_) AllReadyH.nil
    rw[if_pos (by rfl)]
    go_simp
    obtain⟨w3',hv⟩:∃X,X=w2'.alloc (.map #[] 0):=⟨_,rfl⟩
    obtain⟨mU,hb⟩:∃mU,mU=w2'.heap.size:=⟨_,rfl⟩
    have hH2:Below Bn w3 w3':=by rw[hv];exact hHeld.alloc hz2 _
    have hz3:Bn≤w3'.heap.size:=by rw[hv,World.size_alloc];omega
    have hbk:Below w2'.heap.size w2' w3':=by rw[hv];exact(Below.refl _ _).alloc (Nat.le_refl _) _
    have hM:w3'.heap[mU]? = some (.map #[] 0):=by rw[hv,hb];exact World.alloc_heap_new _ _
    have hMB:Bn≤mU:=by omega
    have hcm:mU ≠ cb:=by have:=(Array.getElem?_eq_some_iff.1 hC).1;omega
    replace hC:=(hbk.block cb (Array.getElem?_eq_some_iff.1 hC).1).trans hC
    rw[←hv,←hb]
    clear hv hb hbk
    refine hK.out _ _ hH2 (fun hHeld=>?_)
    clear hK K hH2
    try simp only[Act.put,List.setIfInBounds_toArray,List.set_cons_zero,List.set_cons_succ]
    refine wpAnyH_ready (rs:=[6]) (by kernel_rfl) (by simp) ?_
    refine AllReadyH.cons (o:=⟨none,_,_,_,_,_⟩) rfl (fun K hK=>?_) AllReadyH.nil
    rw[if_pos (by rfl)]
    go_simp
    have hpu:=k_put0 cf.key w3' mU hM
    rw[show(.agg (kArr cf.key):Value)=.agg (kArr cf.key).toList.toArray from rfl]at hpu
    have hU:=uk_one w3' mU (Array.getElem?_eq_some_iff.1 hM).1 cf.key
    have hkp:World.grownBy w3' (w3'.putObj mU (.map #[{ key:=.agg (kArr cf.key),val:=.bool true,born:=0 }] 1)) (some mU):=grownBy_putObj' _ _ _
    obtain⟨w4',hv⟩:∃X,X=w3'.putObj mU (.map #[{ key:=.agg (kArr cf.key),val:=.bool true,born:=0 }] 1):=⟨_,rfl⟩
    rw[←hv]at hkp hU
    have hH2:Below Bn w3 w4':=KeepF.below hHeld (KeepF.of_row (F:=fun k=>k=mU) hkp rfl) (fun k e=>by rw[e];exact hMB) hz3
    have hz4:Bn≤w4'.heap.size:=Nat.le_trans hz3 hkp.size
    replace hC:=(hkp.block cb (Array.getElem?_eq_some_iff.1 hC).1 (fun e=>hcm (Option.some.inj e).symm)).trans hC
    go_simp
    rw[←hv]
    clear hv hkp hpu hM
    refine hK.out _ _ hH2 (fun hHeld=>?_)
    clear hK K hH2
    try simp only[Act.put,List.setIfInBounds_toArray,List.set_cons_zero,List.set_cons_succ]
    refine tkH (i:=7) (oi:=⟨some 26,_,_,_,_,_⟩) (v:=.map (some mU)) rfl (Or.inl ⟨by rfl,fun W hW=>(by rfl)⟩) (by assumption) ?_
    refine tkH (i:=9) (oi:=⟨some 28,_,_,_,_,_⟩) (v:=.agg (tArr cf.arr true 0 N (.slice none 0 0) (.slice none 0 0) mU cb)) rfl (Or.inl ⟨by rfl,fun W hW=>(by kernel_rfl)⟩) (by assumption) ?_
    refine wpAnyH_ready (rs:=[10]) (by kernel_rfl) (by simp) ?_
    refine AllReadyH.cons (o:=⟨some 29,_,_,_,_,_⟩) rfl (fun K hK=>?_) AllReadyH.nil
    rw[if_pos (by rfl)]
    go_simp
    obtain⟨wv,hv⟩:∃wv,wv=w4'.alloc (.cells (tArr cf.arr true 0 N (.slice none 0 0) (.slice none 0 0) mU cb) 66):=⟨_,rfl⟩
    obtain⟨rb,hrb⟩:∃rb,rb=w4'.heap.size:=⟨_,rfl⟩
    have hR:Blk wv rb 66 (tArr cf.arr true 0 N (.slice none 0 0) (.slice none 0 0) mU cb):=by rw[hv,hrb];exact Blk.new _ _ _
    have hH2:Below Bn w3 wv:=by rw[hv];exact hHeld.alloc hz4 _
    have hbk:Below w4'.heap.size w4' wv:=by rw[hv];exact(Below.refl _ _).alloc (Nat.le_refl _) _
    replace hU:=hU.keep (hbk.block mU hU.lt)
    have hcl:=(Array.getElem?_eq_some_iff.1 hC).1
    replace hC:=(hbk.block cb hcl).trans hC
    have hne:cb ≠ rb:=by omega
    rw[←hv,←hrb]
    refine hK.out _ _ hH2 (fun hHeld=>?_)
    clear hK K
    try simp only[Act.put,List.setIfInBounds_toArray,List.set_cons_zero,List.set_cons_succ]
    refine tkH (i:=11) (oi:=⟨some 6,_,_,_,_,_⟩) (v:=.pointer (some ⟨rb,0,none⟩)) rfl (Or.inl ⟨by rfl,fun W hW=>(by rfl)⟩) (by assumption) ?_
    refine wpAnyH_done (by kernel_rfl) ?_ _
    go_wp2
    go_meet
    exact⟨rb,mU,cb,rfl,txnew_intro cf N HNR.out wv rb mU cb hR hU hC hne (fun e=>hcm e.symm),by omega,hMB,hCB,hH2⟩
  ·rw[if_pos (by rfl)]
   go_simp
   obtain⟨w1',hv⟩:∃X,X=w0.alloc (.map #[] 0):=⟨_,rfl⟩
   obtain⟨mU,hb⟩:∃mU,mU=w0.heap.size:=⟨_,rfl⟩
   have hH2:Below Bn w3 w1':=by rw[hv];exact hHeld.alloc hz0 _
   have hz1:Bn≤w1'.heap.size:=by rw[hv,World.size_alloc];omega
   have hbk:Below w0.heap.size w0 w1':=by rw[hv];exact(Below.refl _ _).alloc (Nat.le_refl _) _
   have hM:w1'.heap[mU]? = some (.map #[] 0):=by rw[hv,hb];exact World.alloc_heap_new _ _
   have hMB:Bn≤mU:=by omega
   rw[←hv,←hb]
   clear hv hb hbk
   refine hK.out _ _ hH2 (fun hHeld=>?_)
   clear hK K hH2
   try simp only[Act.put,List.setIfInBounds_toArray,List.set_cons_zero,List.set_cons_succ]
   refine wpAnyH_ready (rs:=[2,6]) (by kernel_rfl) (by simp) ?_
   refine AllReadyH.cons (o:=⟨some 22,_,_,_,_,_⟩) rfl (fun K hK=>?_) (AllReadyH.cons (o:=⟨none,_,_,_,_,_⟩) rfl (fun K hK=>?_) AllReadyH.nil)
   ·rw[if_pos (by rfl)]
    go_simp
    refine(HNX.out w1').mono ?_
    rintro e w2' ⟨rfl,hbk⟩
    dsimp only
    have hH2:Below Bn w3 w2':=hHeld.trans (hbk.mono hz1)
    have hz2:Bn≤w2'.heap.size:=Nat.le_trans hz1 hbk.size
    replace hM:=(hbk.block mU (Array.getElem?_eq_some_iff.1 hM).1).trans hM
    clear hbk
    refine hK.out _ _ hH2 (fun hHeld=>?_)
    clear hK K hH2
    try simp only[Act.put,List.setIfInBounds_toArray,List.set_cons_zero,List.set_cons_succ]
    refine wpAnyH_ready (rs:=[6,8]) (by kernel_rfl) (by simp) ?_
    refine AllReadyH.cons (o:=⟨none,_,_,_,_,_⟩) rfl (fun K hK=>?_) (AllReadyH.cons (o:=⟨some 27,_,_,_,_,_⟩) rfl (fun K hK=>?_) AllReadyH.nil)
    ·rw[if_pos (by rfl)]
     go_simp
     have hpu:=k_put0 cf.key w2' mU hM
     rw[show(.agg (kArr cf.key):Value)=.agg (kArr cf.key).toList.toArray from rfl]at hpu
     have hU:=uk_one w2' mU (Array.getElem?_eq_some_iff.1 hM).1 cf.key
     have hkp:World.grownBy w2' (w2'.putObj mU (.map #[{ key:=.agg (kArr cf.key),val:=.bool true,born:=0 }] 1)) (some mU):=grownBy_putObj' _ _ _
     obtain⟨w3',hv⟩:∃X,X=w2'.putObj mU (.map #[{ key:=.agg (kArr cf.key),val:=.bool true,born:=0 }] 1):=⟨_,rfl⟩
     rw[←hv]at hkp hU
     have hH2:Below Bn w3 w3':=KeepF.below hHeld (KeepF.of_row (F:=fun k=>k=mU) hkp rfl) (fun k e=>by rw[e];exact hMB) hz2
     have hz3:Bn≤w3'.heap.size:=Nat.le_trans hz2 hkp.size
     go_simp
     rw[←hv]
     clear hv hkp hpu hM
     refine hK.out _ _ hH2 (fun hHeld=>?_)
     clear hK K hH2
     try simp only[Act.put,List.setIfInBounds_toArray,List.set_cons_zero,List.set_cons_succ]
     refine tkH (i:=7) (oi:=⟨some 26,_,_,_,_,_⟩) (v:=.map (some mU)) rfl (Or.inl ⟨by rfl,fun W hW=>(by rfl)⟩) (by assumption) ?_
     refine wpAnyH_ready (rs:=[8]) (by kernel_rfl) (by simp) ?_
     refine AllReadyH.cons (o:=⟨some 27,_,_,_,_,_⟩) rfl (fun K hK=>?_) AllReadyH.nil
     rw[if_pos (by rfl)]
     go_simp
     refine(tcnew_ok w3').mono ?_
     rintro e w4' ⟨rfl,hv⟩
     obtain⟨cb,hb⟩:∃cb,cb=w3'.heap.size:=⟨_,rfl⟩
     rw[←hb]
     dsimp only
     have hH2:Below Bn w3 w4':=by rw[←hv];exact hHeld.alloc hz3 _
     have hz4:Bn≤w4'.heap.size:=by rw[←hv,World.size_alloc];omega
     have hbk:Below w3'.heap.size w3' w4':=by rw[←hv];exact(Below.refl _ _).alloc (Nat.le_refl _) _
     have hC:w4'.heap[cb]? = some cNew:=by rw[←hv,hb];exact World.alloc_heap_new _ _
     have hCB:Bn≤cb:=by omega
     have hcm:mU ≠ cb:=by have:=hU.lt;omega
     replace hU:=hU.keep (hbk.block mU hU.lt)
     clear hv hb hbk
     refine hK.out _ _ hH2 (fun hHeld=>?_)
     clear hK K hH2
     try simp only[Act.put,List.setIfInBounds_toArray,List.set_cons_zero,List.set_cons_succ]
     refine tkH (i:=9) (oi:=⟨some 28,_,_,_,_,_⟩) (v:=.agg (tArr cf.arr true 0 N (.slice none 0 0) (.slice none 0 0) mU cb)) rfl (Or.inl ⟨by rfl,fun W hW=>(by kernel_rfl)⟩) (by assumption) ?_
     refine wpAnyH_ready (rs:=[10]) (by kernel_rfl) (by simp) ?_
     refine AllReadyH.cons (o:=⟨some 29,_,_,_,_,_⟩) rfl (fun K hK=>?_) AllReadyH.nil
     rw[if_pos (by rfl)]
     go_simp
     obtain⟨wv,hv⟩:∃wv,wv=w4'.alloc (.cells (tArr cf.arr true 0 N (.slice none 0 0) (.slice none 0 0) mU cb) 66):=⟨_,rfl⟩
     obtain⟨rb,hrb⟩:∃rb,rb=w4'.heap.size:=⟨_,rfl⟩
     have hR:Blk wv rb 66 (tArr cf.arr true 0 N (.slice none 0 0) (.slice none 0 0) mU cb):=by rw[hv,hrb];exact Blk.new _ _ _
     have hH2:Below Bn w3 wv:=by rw[hv];exact hHeld.alloc hz4 _
     have hbk:Below w4'.heap.size w4' wv:=by rw[hv];exact(Below.refl _ _).alloc (Nat.le_refl _) _
     replace hU:=hU.keep (hbk.block mU hU.lt)
     have hcl:=(Array.getElem?_eq_some_iff.1 hC).1
     replace hC:=(hbk.block cb hcl).trans hC
     have hne:cb ≠ rb:=by omega
     rw[←hv,←hrb]
     refine hK.out _ _ hH2 (fun hHeld=>?_)
     clear hK K
     try simp only[Act.put,List.setIfInBounds_toArray,List.set_cons_zero,List.set_cons_succ]
     refine tkH (i:=11) (oi:=⟨some 6,_,_,_,_,_⟩) (v:=.pointer (some ⟨rb,0,none⟩)) rfl (Or.inl ⟨by rfl,fun W hW=>(by rfl)⟩) (by assumption) ?_
     refine wpAnyH_done (by kernel_rfl) ?_ _
     go_wp2
     go_meet
     exact⟨rb,mU,cb,rfl,txnew_intro cf N HNR.out wv rb mU cb hR hU hC hne (fun e=>hcm e.symm),by omega,hMB,hCB,hH2⟩
    ·rw[if_pos (by rfl)]
     go_simp
     refine(tcnew_ok w2').mono ?_
     rintro e w3' ⟨rfl,hv⟩
     obtain⟨cb,hb⟩:∃cb,cb=w2'.heap.size:=⟨_,rfl⟩
     rw[←hb]
     dsimp only
     have hH2:Below Bn w3 w3':=by rw[←hv];exact hHeld.alloc hz2 _
     have hz3:Bn≤w3'.heap.size:=by rw[←hv,World.size_alloc];omega
     have hbk:Below w2'.heap.size w2' w3':=by rw[←hv];exact(Below.refl _ _).alloc (Nat.le_refl _) _
     have hC:w3'.heap[cb]? = some cNew:=by rw[←hv,hb];exact World.alloc_heap_new _ _
     have hCB:Bn≤cb:=by omega
     have hcm:mU ≠ cb:=by have:=(Array.getElem?_eq_some_iff.1 hM).1;omega
     replace hM:=(hbk.block mU (Array.getElem?_eq_some_iff.1 hM).1).trans hM
     clear hv hb hbk
     refine hK.out _ _ hH2 (fun hHeld=>?_)
     clear hK K hH2
     try simp only[Act.put,List.setIfInBounds_toArray,List.set_cons_zero,List.set_cons_succ]
     refine wpAnyH_ready (rs:=[6]) (by kernel_rfl) (by simp) ?_
     refine AllReadyH.cons (o:=⟨none,_,_,_,_,_⟩) rfl (fun K hK=>?_) AllReadyH.nil
     rw[if_pos (by rfl)]
     go_simp
     have hpu:=k_put0 cf.key w3' mU hM
     rw[show(.agg (kArr cf.key):Value)=.agg (kArr cf.key).toList.toArray from rfl]at hpu
     have hU:=uk_one w3' mU (Array.getElem?_eq_some_iff.1 hM).1 cf.key
     have hkp:World.grownBy w3' (w3'.putObj mU (.map #[{ key:=.agg (kArr cf.key),val:=.bool true,born:=0 }] 1)) (some mU):=grownBy_putObj' _ _ _
     obtain⟨w4',hv⟩:∃X,X=w3'.putObj mU (.map #[{ key:=.agg (kArr cf.key),val:=.bool true,born:=0 }] 1):=⟨_,rfl⟩
     rw[←hv]at hkp hU
     have hH2:Below Bn w3 w4':=KeepF.below hHeld (KeepF.of_row (F:=fun k=>k=mU) hkp rfl) (fun k e=>by rw[e];exact hMB) hz3
     have hz4:Bn≤w4'.heap.size:=Nat.le_trans hz3 hkp.size
     replace hC:=(hkp.block cb (Array.getElem?_eq_some_iff.1 hC).1 (fun e=>hcm (Option.some.inj e).symm)).trans hC
     go_simp
     rw[←hv]
     clear hv hkp hpu hM
     refine hK.out _ _ hH2 (fun hHeld=>?_)
     clear hK K hH2
     try simp only[Act.put,List.setIfInBounds_toArray,List.set_cons_zero,List.set_cons_succ]
     refine tkH (i:=7) (oi:=⟨some 26,_,_,_,_,_⟩) (v:=.map (some mU)) rfl (Or.inl ⟨by rfl,fun W hW=>(by rfl)⟩) (by assumption) ?_
     refine tkH (i:=9) (oi:=⟨some 28,_,_,_,_,_⟩) (v:=.agg (tArr cf.arr true 0 N (.slice none 0 0) (.slice none 0 0) mU cb)) rfl (Or.inl ⟨by rfl,fun W hW=>(by kernel_rfl)⟩) (by assumption) ?_
     refine wpAnyH_ready (rs:=[10]) (by kernel_rfl) (by simp) ?_
     refine AllReadyH.cons (o:=⟨some 29,_,_,_,_,_⟩) rfl (fun K hK=>?_) AllReadyH.nil
     rw[if_pos (by rfl)]
     go_simp
     obtain⟨wv,hv⟩:∃wv,wv=w4'.alloc (.cells (tArr cf.arr true 0 N (.slice none 0 0) (.slice none 0 0) mU cb) 66):=⟨_,rfl⟩
     obtain⟨rb,hrb⟩:∃rb,rb=w4'.heap.size:=⟨_,rfl⟩
     have hR:Blk wv rb 66 (tArr cf.arr true 0 N (.slice none 0 0) (.slice none 0 0) mU cb):=by rw[hv,hrb];exact Blk.new _ _ _
     have hH2:Below Bn w3 wv:=by rw[hv];exact hHeld.alloc hz4 _
     have hbk:Below w4'.heap.size w4' wv:=by rw[hv];exact(Below.refl _ _).alloc (Nat.le_refl _) _
     replace hU:=hU.keep (hbk.block mU hU.lt)
     have hcl:=(Array.getElem?_eq_some_iff.1 hC).1
     replace hC:=(hbk.block cb hcl).trans hC
     have hne:cb ≠ rb:=by omega
     rw[←hv,←hrb]
     refine hK.out _ _ hH2 (fun hHeld=>?_)
     clear hK K
     try simp only[Act.put,List.setIfInBounds_toArray,List.set_cons_zero,List.set_cons_succ]
     refine tkH (i:=11) (oi:=⟨some 6,_,_,_,_,_⟩) (v:=.pointer (some ⟨rb,0,none⟩)) rfl (Or.inl ⟨by rfl,fun W hW=>(by rfl)⟩) (by assumption) ?_
     refine wpAnyH_done (by kernel_rfl) ?_ _
     go_wp2
     go_meet
     exact⟨rb,mU,cb,rfl,txnew_intro cf N HNR.out wv rb mU cb hR hU hC hne (fun e=>hcm e.symm),by omega,hMB,hCB,hH2⟩
   ·rw[if_pos (by rfl)]
    go_simp
    have hpu:=k_put0 cf.key w1' mU hM
    rw[show(.agg (kArr cf.key):Value)=.agg (kArr cf.key).toList.toArray from rfl]at hpu
    have hU:=uk_one w1' mU (Array.getElem?_eq_some_iff.1 hM).1 cf.key
    have hkp:World.grownBy w1' (w1'.putObj mU (.map #[{ key:=.agg (kArr cf.key),val:=.bool true,born:=0 }] 1)) (some mU):=grownBy_putObj' _ _ _
    obtain⟨w2',hv⟩:∃X,X=w1'.putObj mU (.map #[{ key:=.agg (kArr cf.key),val:=.bool true,born:=0 }] 1):=⟨_,rfl⟩
    rw[←hv]at hkp hU
    have hH2:Below Bn w3 w2':=KeepF.below hHeld (KeepF.of_row (F:=fun k=>k=mU) hkp rfl) (fun k e=>by rw[e];exact hMB) hz1
    have hz2:Bn≤w2'.heap.size:=Nat.le_trans hz1 hkp.size
    go_simp
    rw[←hv]
    clear hv hkp hpu hM
    refine hK.out _ _ hH2 (fun hHeld=>?_)
    clear hK K hH2
    try simp only[Act.put,List.setIfInBounds_toArray,List.set_cons_zero,List.set_cons_succ]
    refine tkH (i:=7) (oi:=⟨some 26,_,_,_,_,_⟩) (v:=.map (some mU)) rfl (Or.inl ⟨by rfl,fun W hW=>(by rfl)⟩) (by assumption) ?_
    refine wpAnyH_ready (rs:=[2]) (by kernel_rfl) (by simp) ?_
    refine AllReadyH.cons (o:=⟨some 22,_,_,_,_,_⟩) rfl (fun K hK=>?_) AllReadyH.nil
    rw[if_pos (by rfl)]
    go_simp
    refine(HNX.out w2').mono ?_
    rintro e w3' ⟨rfl,hbk⟩
    dsimp only
    have hH2:Below Bn w3 w3':=hHeld.trans (hbk.mono hz2)
    have hz3:Bn≤w3'.heap.size:=Nat.le_trans hz2 hbk.size
    replace hU:=hU.keep (hbk.block mU hU.lt)
    clear hbk
    refine hK.out _ _ hH2 (fun hHeld=>?_)
    clear hK K hH2
    try simp only[Act.put,List.setIfInBounds_toArray,List.set_cons_zero,List.set_cons_succ]
    refine wpAnyH_ready (rs:=[8]) (by kernel_rfl) (by simp) ?_
    refine AllReadyH.cons (o:=⟨some 27,_,_,_,_,_⟩) rfl (fun K hK=>?_) AllReadyH.nil
    rw[if_pos (by rfl)]
    go_simp
    refine(tcnew_ok w3').mono ?_
    rintro e w4' ⟨rfl,hv⟩
    obtain⟨cb,hb⟩:∃cb,cb=w3'.heap.size:=⟨_,rfl⟩
    rw[←hb]
    dsimp only
    have hH2:Below Bn w3 w4':=by rw[←hv];exact hHeld.alloc hz3 _
    have hz4:Bn≤w4'.heap.size:=by rw[←hv,World.size_alloc];omega
    have hbk:Below w3'.heap.size w3' w4':=by rw[←hv];exact(Below.refl _ _).alloc (Nat.le_refl _) _
    have hC:w4'.heap[cb]? = some cNew:=by rw[←hv,hb];exact World.alloc_heap_new _ _
    have hCB:Bn≤cb:=by omega
    have hcm:mU ≠ cb:=by have:=hU.lt;omega
    replace hU:=hU.keep (hbk.block mU hU.lt)
    clear hv hb hbk
    refine hK.out _ _ hH2 (fun hHeld=>?_)
    clear hK K hH2
    try simp only[Act.put,List.setIfInBounds_toArray,List.set_cons_zero,List.set_cons_succ]
    refine tkH (i:=9) (oi:=⟨some 28,_,_,_,_,_⟩) (v:=.agg (tArr cf.arr true 0 N (.slice none 0 0) (.slice none 0 0) mU cb)) rfl (Or.inl ⟨by rfl,fun W hW=>(by kernel_rfl)⟩) (by assumption) ?_
    refine wpAnyH_ready (rs:=[10]) (by kernel_rfl) (by simp) ?_
    refine AllReadyH.cons (o:=⟨some 29,_,_,_,_,_⟩) rfl (fun K hK=>?_) AllReadyH.nil
    rw[if_pos (by rfl)]
    go_simp
    obtain⟨wv,hv⟩:∃wv,wv=w4'.alloc (.cells (tArr cf.arr true 0 N (.slice none 0 0) (.slice none 0 0) mU cb) 66):=⟨_,rfl⟩
    obtain⟨rb,hrb⟩:∃rb,rb=w4'.heap.size:=⟨_,rfl⟩
    have hR:Blk wv rb 66 (tArr cf.arr true 0 N (.slice none 0 0) (.slice none 0 0) mU cb):=by rw[hv,hrb];exact Blk.new _ _ _
    have hH2:Below Bn w3 wv:=by rw[hv];exact hHeld.alloc hz4 _
    have hbk:Below w4'.heap.size w4' wv:=by rw[hv];exact(Below.refl _ _).alloc (Nat.le_refl _) _
    replace hU:=hU.keep (hbk.block mU hU.lt)
    have hcl:=(Array.getElem?_eq_some_iff.1 hC).1
    replace hC:=(hbk.block cb hcl).trans hC
    have hne:cb ≠ rb:=by omega
    rw[←hv,←hrb]
    refine hK.out _ _ hH2 (fun hHeld=>?_)
    clear hK K
    try simp only[Act.put,List.setIfInBounds_toArray,List.set_cons_zero,List.set_cons_succ]
    refine tkH (i:=11) (oi:=⟨some 6,_,_,_,_,_⟩) (v:=.pointer (some ⟨rb,0,none⟩)) rfl (Or.inl ⟨by rfl,fun W hW=>(by rfl)⟩) (by assumption) ?_
    refine wpAnyH_done (by kernel_rfl) ?_ _
    go_wp2
    go_meet
    exact⟨rb,mU,cb,rfl,txnew_intro cf N HNR.out wv rb mU cb hR hU hC hne (fun e=>hcm e.symm),by omega,hMB,hCB,hH2⟩
 case rest=>
  obtain⟨g,ub,cb,rfl,hT,hg,hu,hcb,hB⟩:=hcut
  have HI0:=zh (show RL cf N Bn w3 g ub cb 0 ct pn z 0 qn y (fun k=>k=g∨k=ub∨k=cb) (fun _=>False) none 0 [] none 0 [] wc from ⟨hT,fun k hk=>(by rcases hk with rfl | rfl | rfl<;>assumption),fun k hk=>hk.elim,hB⟩)
  have xs2:wc.cell? ⟨zb+1,2,none⟩=some (.slice A m c1):=(BS.out.below hB hzl).cell 2
  have hm':(m:Int)≤9223372036854775807:=by omega
  have HM6:=zh hm
  have HMQ6:=zh hmq
  have hmq':(mq:Int)≤9223372036854775807:=by omega
  clear hT hB hg hu hcb
  go_wp2
  go_loopw [33] (fun v wr=>∃(k:Nat) (W R:Nat→Prop) (pA:Option Addr) (pc':Nat) (lp:List PE),k≤m∧v=.int .i64 k∧RL cf N Bn w3 g ub cb k ct pn z 0 qn y W R none 0 [] pA pc' lp wr) (fun v _=>m-(intOf v).toNat)
  case atStart=>exact⟨0,_,_,_,_,_,by omega,rfl,HI0.out⟩
  case round=>
   obtain⟨k,W,R,pA,pc',lp,hk,rfl,hRL⟩:=hrel
   have RR:=zh hRL
   have hbs:Bn≤wr.heap.size:=by have:=hRL.b.size;omega
   have hgB:Bn≤g:=hRL.wB g hRL.t.wg
   have hgl:g < wr.heap.size:=hRL.t.blk.lt
   clear hRL
   by_cases hlt:k < m
   ·obtain⟨lb,lo,rfl,hlb,hlc⟩:=HC.out.at_ (by omega)
    obtain⟨c0,c1'⟩:=hlc k hlt
    have hw3:lb < Bn:=by omega
    have q0:wr.cell? ⟨lb,lo+k*2,none⟩=some (.int .u32 (ct k)):=(RR.out.b.cell (p:=⟨lb,lo+k*2,none⟩) hw3).trans ((D3.out.cell (p:=⟨lb,lo+k*2,none⟩) hlb).trans c0)
    have q1:wr.cell? ⟨lb,lo+k*2+1,none⟩=some (.slice (PA k) (pn k) (pc k)):=(RR.out.b.cell (p:=⟨lb,lo+k*2+1,none⟩) hw3).trans ((D3.out.cell (p:=⟨lb,lo+k*2+1,none⟩) hlb).trans c1')
    obtain⟨r0,r1⟩:=HC.out.rng k hlt
    obtain⟨hp1,hp9⟩:=(fits_iff _).1 (HFO.out.elem k hlt).1
    have RK:=zh (show Row wr wr.heap.size (PA k) (pn k) (fun j=>.int .u8 (z k j))from (((HC.out.row k hlt).below D3.out).below (RR.out.b.mono hbw)).more (Nat.le_trans hbw hbs))
    have hby:=HC.out.byte k hlt
    have HBY:=zh hby
    have hplen:lp.length=k:=by have:=congrArg List.length RR.out.t.pv;simpa[resS,resP_len]using this
    have HPL:=zh hplen
    have HRS:=zh (resP_succ k ct pn z)
    obtain⟨x,hx⟩:∃x,x=ct k:=⟨_,rfl⟩
    rw[←hx]at q0 r0 r1 HRS
    have k0:(0:Int)≤(k:Int):=by omega
    have k1:(k:Int) < (m:Int):=by omega
    clear hx hlc c0 c1' hby hplen
    go_upto_region 7 with (fail)
    refine wp_let (fun W'=>Blk W' wr.heap.size 52 #[.int .u32 x,.slice (PA k) (pn k) (pc k)]∧Below wr.heap.size wr W') ⟨Blk.new _ _ _,(Below.refl _ wr).alloc (Nat.le_refl _) _⟩ ?_
    rintro W6 ⟨b6,b7⟩
    obtain⟨xb,hxb⟩:∃xb,xb=wr.heap.size:=⟨_,rfl⟩
    have hxg:xb ≠ g:=by omega
    have hxp:∀a,pA=some a→xb ≠ a.block:=fun a e=>by have:=RR.out.t.p.lt e;omega
    have T6:=zh (RR.out.t.below b7)
    have B6:=zh (show Below Bn w3 W6 from RR.out.b.trans (b7.mono hbs))
    have hs6:Bn≤W6.heap.size:=Nat.le_trans hbs b7.size
    have R6:=zh (RK.out.next b7)
    rw[←hxb]at b6 ⊢
    have X6:=zh b6
    clear b6 b7 hxb q0 q1
    have HS:=zh (show ∀W',KeepF (fun j=>j=g∨∃a,pA=some a∧j=a.block) W6 W'→W'.cell? ⟨xb,0,none⟩=some (.int .u32 x)∧W'.cell? ⟨xb,1,none⟩=some (.slice (PA k) (pn k) (pc k))from fun W' hW=>by
     have:=hW.blk X6.out (fun hf=>by rcases hf with h | ⟨a,ha,h⟩;exact hxg h;exact hxp a ha h)
     exact⟨this.cell 0,this.cell 1⟩)
    obtain⟨w0,hw0⟩:∃w0,w0=W6.drew:=⟨_,rfl⟩
    have T0:TxM w0 g (resS cf N k ct pn z 0 qn y) W R none 0 [] pA pc' lp ub cb:=by rw[hw0];exact T6.out.below (Below.refl _ _).drew
    have hb0:Below W6.heap.size W6 w0:=by rw[hw0];exact(Below.refl _ _).drew
    obtain⟨ip,hip,hipz,hips,hipb⟩:=infoPend
    refine wp_region_held_drew (S:=fun w'=>KeepF (fun j=>j=g∨∃a,pA=some a∧j=a.block) W6 w') (by kernel_rfl) ((KeepF.refl (w:=W6)).drew) (fun hHeld=>?_)
    rw[←hw0]
    rw[←hw0]at hHeld
    clear hw0
    obtain⟨pl,hpl⟩:∃pl,pl=lp.length:=⟨_,rfl⟩
    have HPL2:=zh hpl
    clear hpl
    have hbF:Bn≤w0.heap.size:=Nat.le_trans hs6 hb0.size
    have HST:=zh (fun(W':World) (W2 R2:Nat→Prop) (A9 A2:Option Addr) (c9 c2':Nat) (h:TxM W' g { resS cf N k ct pn z 0 qn y with P:=(lp++[(⟨⟨x,pn k,z k,true⟩,A2,c2'⟩:PE)]).map (·.v) } W2 R2 none 0 [] A9 c9 (lp++[(⟨⟨x,pn k,z k,true⟩,A2,c2'⟩:PE)]) ub cb)=>(show TxM W' g (resS cf N (k+1) ct pn z 0 qn y) W2 R2 none 0 [] A9 c9 (lp++[(⟨⟨x,pn k,z k,true⟩,A2,c2'⟩:PE)]) ub cb from by
     have e1:(lp++[(⟨⟨x,pn k,z k,true⟩,A2,c2'⟩:PE)]).map (·.v)=resP (k+1) ct pn z:=by
      rw[HRS.out,List.map_append,RR.out.t.pv];rfl
     rw[e1]at h
     exact h))
    refine tkH (i:=0) (oi:=⟨some 37,_,_,_,_,_⟩) (v:=.pointer (some ⟨g,0,none⟩)) rfl (Or.inl ⟨by rfl,fun W hW=>(by rfl)⟩) (by assumption) ?_
    refine tkH (i:=1) (oi:=⟨some 38,_,_,_,_,_⟩) (v:=.pointer (some ⟨g,0,none⟩)) rfl (Or.inl ⟨by rfl,fun W hW=>(by rfl)⟩) (by assumption) ?_
    refine tkH (i:=2) (oi:=⟨some 39,_,_,_,_,_⟩) (v:=.pointer (some ⟨g,0,none⟩)) rfl (Or.inl ⟨by rfl,fun W hW=>(by go_simp)⟩) (by assumption) ?_
    refine tkH (i:=3) (oi:=⟨some 40,_,_,_,_,_⟩) (v:=.pointer (some ⟨g,43,none⟩)) rfl (Or.inl ⟨by rfl,fun W hW=>(by go_simp)⟩) (by assumption) ?_
    refine tkH (i:=5) (oi:=⟨some 42,_,_,_,_,_⟩) (v:=.pointer (some ⟨xb,0,none⟩)) rfl (Or.inl ⟨by rfl,fun W hW=>(by go_simp)⟩) (by assumption) ?_
    refine tkH (i:=6) (oi:=⟨some 43,_,_,_,_,_⟩) (v:=.int .u32 x) rfl (Or.inl ⟨by rfl,fun W hW=>(by obtain⟨u0,u1⟩:=HS.out W hW;go_simp)⟩) (by assumption) ?_
    refine tkH (i:=7) (oi:=⟨some 44,_,_,_,_,_⟩) (v:=.pointer (some ⟨xb,1,none⟩)) rfl (Or.inl ⟨by rfl,fun W hW=>(by go_simp)⟩) (by assumption) ?_
    refine tkH (i:=8) (oi:=⟨some 45,_,_,_,_,_⟩) (v:=.slice (PA k) (pn k) (pc k)) rfl (Or.inl ⟨by rfl,fun W hW=>(by obtain⟨u0,u1⟩:=HS.out W hW;go_simp)⟩) (by assumption) ?_
    refine wpAnyH_ready (rs:=[4,9]) (by kernel_rfl) (by simp) ?_
    refine AllReadyH.cons (o:=⟨some 41,_,_,_,_,_⟩) rfl (fun K hK=>?_) (AllReadyH.cons (o:=⟨some 46,_,_,_,_,_⟩) rfl (fun K hK=>?_) AllReadyH.nil)
    ·rw[if_pos (by rfl)]
     have h43:=T0.cp
     rw[←HPL2.out]at h43
     go_simp
     refine hK.out _ _ hHeld (fun hHeld=>?_)
     clear hK K h43
     try simp only[Act.put,List.setIfInBounds_toArray,List.set_cons_zero,List.set_cons_succ]
     refine wpAnyH_ready (rs:=[9]) (by kernel_rfl) (by simp) ?_
     refine AllReadyH.cons (o:=⟨some 46,_,_,_,_,_⟩) rfl (fun K hK=>?_) AllReadyH.nil
     rw[if_pos (by rfl)]
     go_simp
     refine(clone_any (PA k) (pn k) (pc k) (z k) w0 (by omega) (R6.out.next hb0)).mono ?_
     rintro e w1' ⟨A2,c2',rfl,hc2,hR2,hF2,hbk⟩
     dsimp only
     have hFl:∀a,A2=some a→w0.heap.size≤a.block:=hF2
     have hFr:∀a,A2=some a→a.block < w1'.heap.size:=fun a e=>row_lt hR2 hp1 e
     have hwl1:∀j,W j→j < w0.heap.size:=T0.win
     have T1:=T0.below hbk
     have hb1:Below W6.heap.size W6 w1':=hb0.trans (hbk.mono hb0.size)
     have hW2:∀j,W j→∀a,A2=some a→j ≠ a.block:=fun j hj a e=>by have:=hFl a e;have:=hwl1 j hj;omega
     refine hK.out _ _ (hHeld.more hbk) (fun hHeld=>?_)
     clear hK K hbk hF2
     try simp only[Act.put,List.setIfInBounds_toArray,List.set_cons_zero,List.set_cons_succ]
     refine tkH (i:=10) (oi:=⟨some 47,_,_,_,_,_⟩) (v:=.agg #[.int .u32 x,.slice A2 (pn k) c2']) rfl (Or.inl ⟨by rfl,fun W hW=>(by go_simp)⟩) (by assumption) ?_
     refine tkH (i:=11) (oi:=⟨some 48,_,_,_,_,_⟩) (v:=.agg #[.int .u32 x,.slice A2 (pn k) c2',.bool true]) rfl (Or.inl ⟨by rfl,fun W hW=>(by go_simp)⟩) (by assumption) ?_
     refine wpAnyH_ready (rs:=[12]) (by kernel_rfl) (by simp) ?_
     refine AllReadyH.cons (o:=⟨some 49,_,_,_,_,_⟩) rfl (fun K hK=>?_) AllReadyH.nil
     rw[if_pos (by rfl)]
     go_simp
     obtain⟨w2',hv⟩:∃X,X=w1'.alloc (.cells #[.int .u32 x,.slice A2 (pn k) c2',.bool true] 69):=⟨_,rfl⟩
     obtain⟨nb,hnb⟩:∃nb,nb=w1'.heap.size:=⟨_,rfl⟩
     have hbk:Below w1'.heap.size w1' w2':=by rw[hv];exact(Below.refl _ _).alloc (Nat.le_refl _) _
     have hNB:Blk w2' nb 69 #[.int .u32 x,.slice A2 (pn k) c2',.bool true]:=by rw[hv,hnb];exact Blk.new _ _ _
     have T2:=T1.below hbk
     have hb2:Below W6.heap.size W6 w2':=hb1.trans (hbk.mono hb1.size)
     replace hR2:=hR2.next hbk
     replace hFr:∀a,A2=some a→a.block < w2'.heap.size:=fun a e=>Nat.lt_of_lt_of_le (hFr a e) hbk.size
     rw[←hv,←hnb]
     refine hK.out _ _ (hHeld.more hbk) (fun hHeld=>?_)
     clear hK K hbk hv hnb
     try simp only[Act.put,List.setIfInBounds_toArray,List.set_cons_zero,List.set_cons_succ]
     refine wpAnyH_ready (rs:=[13]) (by kernel_rfl) (by simp) ?_
     refine AllReadyH.cons (o:=⟨some 50,_,_,_,_,_⟩) rfl (fun K hK=>?_) AllReadyH.nil
     rw[if_pos (by rfl)]
     have hSL:=T2.p
     rw[←HPL2.out]at hSL
     refine wp_sl_append _ _ _ _ rfl w2' 69 ip (.agg #[.int .u32 0,.slice none 0 0,.bool false]) 3 40 Tryz.underlying64 hip hipz hips hipb rfl pA pl pc' (lp.flatMap PE.cells) rfl hSL _ rfl 1 [.int .u32 x,.slice A2 (pn k) c2',.bool true] (Src.ofSlice _ Tryz.underlying64 ⟨nb,0,none⟩ 1 1 _ rfl (fun j u hu=>by
       have hj:j < 3:=(List.getElem?_eq_some_iff.1 hu).1
       rw[Addr.add_lit,Nat.zero_add,hNB.cell j]
       simpa using hu) (by simp[Value.oneCell'])) (by decide) (by unfold maxLen;have:=HPL.out;have:=HPL2.out;omega) (by have:=HPL.out;have:=HPL2.out;omega) ?_
     intro A9 c9 wA hSL9 hK9 hA9
     dsimp only
     have hA9n:∀a,A9=some a→(∃a',pA=some a'∧a.block=a'.block)∨w2'.heap.size≤a.block:=hA9
     refine hK.out _ _ (hHeld.trans hK9 (fun j _ hj=>.inr hj)) (fun hHeld=>?_)
     clear hK K
     try simp only[Act.put,List.setIfInBounds_toArray,List.set_cons_zero,List.set_cons_succ]
     refine tkH (i:=14) (oi:=⟨some 51,_,_,_,_,_⟩) (v:=.pointer (some ⟨g,0,none⟩)) rfl (Or.inl ⟨by rfl,fun W hW=>(by go_simp)⟩) (by assumption) ?_
     refine tkH (i:=15) (oi:=⟨some 52,_,_,_,_,_⟩) (v:=.pointer (some ⟨g,43,none⟩)) rfl (Or.inl ⟨by rfl,fun W hW=>(by go_simp)⟩) (by assumption) ?_
     refine wpAnyH_ready (rs:=[16]) (by kernel_rfl) (by simp) ?_
     refine AllReadyH.cons (o:=⟨none,_,_,_,_,_⟩) rfl (fun K hK=>?_) AllReadyH.nil
     rw[if_pos (by rfl)]
     have hg9:Blk wA g 66 _:=hK9.blk T2.blk (fun⟨a,ha,e⟩=>T2.gp a ha e)
     have hc43:wA.cell? ⟨g,43,none⟩=some (.slice pA lp.length pc'):=(hg9.cell 43).trans (tArr_high (resS cf N k ct pn z 0 qn y).C.arr_size 4)
     have hf43:=hg9.frozen 43
     have T9:=T2.moreR (R':=fun j=>R j∨∃a,A2=some a∧j=a.block) (fun j hj=>.inl hj) (fun j hw hr=>by rcases hr with hr | ⟨a,ha,e⟩;exact T2.dis j hw hr;exact hW2 j hw a ha e) (fun j hr=>by rcases hr with hr | ⟨a,ha,e⟩;exact T2.rin j hr;(rw[e];exact hFr a ha))
     have hpk9:∀e:PE,e∈lp++[(⟨⟨x,pn k,z k,true⟩,A2,c2'⟩:PE)]→Pkt wA (fun j=>R j∨∃a,A2=some a∧j=a.block) e.A e.v.n e.c e.v.z:=fun e he=>by
      have hx:Pkt w2' (fun j=>R j∨∃a,A2=some a∧j=a.block) e.A e.v.n e.c e.v.z:=by
       rcases List.mem_append.1 he with he | he
       ·exact T9.pe e he
       ·have:e=(⟨⟨x,pn k,z k,true⟩,A2,c2'⟩:PE):=by simpa using he
        rw[this]
        exact Pkt.of_clone hp1 hp9 hc2 HBY.out hR2
      exact hx.keep hK9 (fun j ⟨a,ha,e2⟩ hr=>T9.dis j (by rw[e2];exact T9.wp a ha) hr)
     have hlen9:(lp++[(⟨⟨x,pn k,z k,true⟩,A2,c2'⟩:PE)]).length=pl+1:=by rw[List.length_append,HPL2.out];rfl
     have hSL9':SL wA 69 3 A9 (lp++[(⟨⟨x,pn k,z k,true⟩,A2,c2'⟩:PE)]).length c9 ((lp++[(⟨⟨x,pn k,z k,true⟩,A2,c2'⟩:PE)]).flatMap PE.cells):=by
      rw[hlen9,List.flatMap_append]
      exact hSL9
     have TF:=T9.setP hK9 hA9n hSL9' hpk9 (fun e he=>by rcases List.mem_append.1 he with he | he;exact T9.pr e.v (by rw[←T9.pv];exact List.mem_map_of_mem he);(have:e=(⟨⟨x,pn k,z k,true⟩,A2,c2'⟩:PE):=by simpa using he);rw[this];exact⟨r0,r1⟩)
     rw[hlen9]at TF
     have hbA:Below Bn w3 wA:=KeepF.below ((show Below Bn w3 W6 from B6.out).trans (hb2.mono hs6)) (hK9.mono (G:=W) (fun j ⟨a,ha,e2⟩=>by rw[e2];exact T2.wp a ha)) RR.out.wB (Nat.le_trans hs6 hb2.size)
     have hsA:Bn≤wA.heap.size:=Nat.le_trans (Nat.le_trans hs6 hb2.size) hK9.size
     have hsn:Bn≤w2'.heap.size:=Nat.le_trans hs6 hb2.size
     have hRBx:∀j,(R j∨∃a,A2=some a∧j=a.block)→Bn≤j:=fun j hr=>by
      rcases hr with hr | ⟨a,ha,e⟩
      ·exact RR.out.rB j hr
      ·have:=hFl a ha
       have:=hbF
       omega
     have hWBx:∀j,(W j∨∃a,A9=some a∧j=a.block)→Bn≤j:=fun j hr=>by
      rcases hr with hr | ⟨a,ha,e⟩
      ·exact RR.out.wB j hr
      ·rcases hA9n a ha with ⟨a',ha',e'⟩ | hge
       ·have:=RR.out.wB a'.block (T2.wp a' ha');omega
       ·omega
     have HTF:=zh TF
     have HBF:=zh (show Below Bn w3 (wA.setCell ⟨g,43,none⟩ (.slice A9 (pl+1) c9))from hbA.setCell (p:=⟨g,43,none⟩) hgB _)
     have HRB:=zh hRBx
     have HWB:=zh hWBx
     have hS9:KeepF (fun j=>j=g∨∃a,pA=some a∧j=a.block) W6 (wA.setCell ⟨g,43,none⟩ (.slice A9 (pl+1) c9)):=hHeld.setCell (p:=⟨g,43,none⟩) (.inl rfl) _
     clear TF hSL9 hSL9' hpk9 hK9 hA9 hA9n T9 hg9 hSL hRBx hWBx hbA
     go_simp
     refine hK.out _ _ hS9 (fun hHeld=>?_)
     clear hK K hS9
     try simp only[Act.put]
     refine wpAnyH_done (by kernel_rfl) ?_ _
     go_wp2
     go_roundw
     case rel=>first | exact⟨k+1,_,_,_,_,_,by omega,by go_num,HST.out _ _ _ _ _ _ _ HTF.out,HWB.out,HRB.out,HBF.out⟩ | ((repeat apply Exists.intro);exact⟨⟨by omega,by go_num,HST.out _ _ _ _ _ _ _ HTF.out,HWB.out,HRB.out,HBF.out⟩,rfl⟩)
     case measure=>simp[intOf];omega
    ·rw[if_pos (by rfl)]
     go_simp
     refine(clone_any (PA k) (pn k) (pc k) (z k) w0 (by omega) (R6.out.next hb0)).mono ?_
     rintro e w1' ⟨A2,c2',rfl,hc2,hR2,hF2,hbk⟩
     dsimp only
     have hFl:∀a,A2=some a→w0.heap.size≤a.block:=hF2
     have hFr:∀a,A2=some a→a.block < w1'.heap.size:=fun a e=>row_lt hR2 hp1 e
     have hwl1:∀j,W j→j < w0.heap.size:=T0.win
     have T1:=T0.below hbk
     have hb1:Below W6.heap.size W6 w1':=hb0.trans (hbk.mono hb0.size)
     have hW2:∀j,W j→∀a,A2=some a→j ≠ a.block:=fun j hj a e=>by have:=hFl a e;have:=hwl1 j hj;omega
     refine hK.out _ _ (hHeld.more hbk) (fun hHeld=>?_)
     clear hK K hbk hF2
     try simp only[Act.put,List.setIfInBounds_toArray,List.set_cons_zero,List.set_cons_succ]
     refine tkH (i:=10) (oi:=⟨some 47,_,_,_,_,_⟩) (v:=.agg #[.int .u32 x,.slice A2 (pn k) c2']) rfl (Or.inl ⟨by rfl,fun W hW=>(by go_simp)⟩) (by assumption) ?_
     refine tkH (i:=11) (oi:=⟨some 48,_,_,_,_,_⟩) (v:=.agg #[.int .u32 x,.slice A2 (pn k) c2',.bool true]) rfl (Or.inl ⟨by rfl,fun W hW=>(by go_simp)⟩) (by assumption) ?_
     refine wpAnyH_ready (rs:=[4,12]) (by kernel_rfl) (by simp) ?_
     refine AllReadyH.cons (o:=⟨some 41,_,_,_,_,_⟩) rfl (fun K hK=>?_) (AllReadyH.cons (o:=⟨some 49,_,_,_,_,_⟩) rfl (fun K hK=>?_) AllReadyH.nil)
     ·rw[if_pos (by rfl)]
      have h43:=T1.cp
      rw[←HPL2.out]at h43
      go_simp
      refine hK.out _ _ hHeld (fun hHeld=>?_)
      clear hK K h43
      try simp only[Act.put,List.setIfInBounds_toArray,List.set_cons_zero,List.set_cons_succ]
      refine wpAnyH_ready (rs:=[12]) (by kernel_rfl) (by simp) ?_
      refine AllReadyH.cons (o:=⟨some 49,_,_,_,_,_⟩) rfl (fun K hK=>?_) AllReadyH.nil
      rw[if_pos (by rfl)]
      go_simp
      obtain⟨w2',hv⟩:∃X,X=w1'.alloc (.cells #[.int .u32 x,.slice A2 (pn k) c2',.bool true] 69):=⟨_,rfl⟩
      obtain⟨nb,hnb⟩:∃nb,nb=w1'.heap.size:=⟨_,rfl⟩
      have hbk:Below w1'.heap.size w1' w2':=by rw[hv];exact(Below.refl _ _).alloc (Nat.le_refl _) _
      have hNB:Blk w2' nb 69 #[.int .u32 x,.slice A2 (pn k) c2',.bool true]:=by rw[hv,hnb];exact Blk.new _ _ _
      have T2:=T1.below hbk
      have hb2:Below W6.heap.size W6 w2':=hb1.trans (hbk.mono hb1.size)
      replace hR2:=hR2.next hbk
      replace hFr:∀a,A2=some a→a.block < w2'.heap.size:=fun a e=>Nat.lt_of_lt_of_le (hFr a e) hbk.size
      rw[←hv,←hnb]
      refine hK.out _ _ (hHeld.more hbk) (fun hHeld=>?_)
      clear hK K hbk hv hnb
      try simp only[Act.put,List.setIfInBounds_toArray,List.set_cons_zero,List.set_cons_succ]
      refine wpAnyH_ready (rs:=[13]) (by kernel_rfl) (by simp) ?_
      refine AllReadyH.cons (o:=⟨some 50,_,_,_,_,_⟩) rfl (fun K hK=>?_) AllReadyH.nil
      rw[if_pos (by rfl)]
      have hSL:=T2.p
      rw[←HPL2.out]at hSL
      refine wp_sl_append _ _ _ _ rfl w2' 69 ip (.agg #[.int .u32 0,.slice none 0 0,.bool false]) 3 40 Tryz.underlying64 hip hipz hips hipb rfl pA pl pc' (lp.flatMap PE.cells) rfl hSL _ rfl 1 [.int .u32 x,.slice A2 (pn k) c2',.bool true] (Src.ofSlice _ Tryz.underlying64 ⟨nb,0,none⟩ 1 1 _ rfl (fun j u hu=>by
        have hj:j < 3:=(List.getElem?_eq_some_iff.1 hu).1
        rw[Addr.add_lit,Nat.zero_add,hNB.cell j]
        simpa using hu) (by simp[Value.oneCell'])) (by decide) (by unfold maxLen;have:=HPL.out;have:=HPL2.out;omega) (by have:=HPL.out;have:=HPL2.out;omega) ?_
      intro A9 c9 wA hSL9 hK9 hA9
      dsimp only
      have hA9n:∀a,A9=some a→(∃a',pA=some a'∧a.block=a'.block)∨w2'.heap.size≤a.block:=hA9
      refine hK.out _ _ (hHeld.trans hK9 (fun j _ hj=>.inr hj)) (fun hHeld=>?_)
      clear hK K
      try simp only[Act.put,List.setIfInBounds_toArray,List.set_cons_zero,List.set_cons_succ]
      refine tkH (i:=14) (oi:=⟨some 51,_,_,_,_,_⟩) (v:=.pointer (some ⟨g,0,none⟩)) rfl (Or.inl ⟨by rfl,fun W hW=>(by go_simp)⟩) (by assumption) ?_
      refine tkH (i:=15) (oi:=⟨some 52,_,_,_,_,_⟩) (v:=.pointer (some ⟨g,43,none⟩)) rfl (Or.inl ⟨by rfl,fun W hW=>(by go_simp)⟩) (by assumption) ?_
      refine wpAnyH_ready (rs:=[16]) (by kernel_rfl) (by simp) ?_
      refine AllReadyH.cons (o:=⟨none,_,_,_,_,_⟩) rfl (fun K hK=>?_) AllReadyH.nil
      rw[if_pos (by rfl)]
      have hg9:Blk wA g 66 _:=hK9.blk T2.blk (fun⟨a,ha,e⟩=>T2.gp a ha e)
      have hc43:wA.cell? ⟨g,43,none⟩=some (.slice pA lp.length pc'):=(hg9.cell 43).trans (tArr_high (resS cf N k ct pn z 0 qn y).C.arr_size 4)
      have hf43:=hg9.frozen 43
      have T9:=T2.moreR (R':=fun j=>R j∨∃a,A2=some a∧j=a.block) (fun j hj=>.inl hj) (fun j hw hr=>by rcases hr with hr | ⟨a,ha,e⟩;exact T2.dis j hw hr;exact hW2 j hw a ha e) (fun j hr=>by rcases hr with hr | ⟨a,ha,e⟩;exact T2.rin j hr;(rw[e];exact hFr a ha))
      have hpk9:∀e:PE,e∈lp++[(⟨⟨x,pn k,z k,true⟩,A2,c2'⟩:PE)]→Pkt wA (fun j=>R j∨∃a,A2=some a∧j=a.block) e.A e.v.n e.c e.v.z:=fun e he=>by
       have hx:Pkt w2' (fun j=>R j∨∃a,A2=some a∧j=a.block) e.A e.v.n e.c e.v.z:=by
        rcases List.mem_append.1 he with he | he
        ·exact T9.pe e he
        ·have:e=(⟨⟨x,pn k,z k,true⟩,A2,c2'⟩:PE):=by simpa using he
         rw[this]
         exact Pkt.of_clone hp1 hp9 hc2 HBY.out hR2
       exact hx.keep hK9 (fun j ⟨a,ha,e2⟩ hr=>T9.dis j (by rw[e2];exact T9.wp a ha) hr)
      have hlen9:(lp++[(⟨⟨x,pn k,z k,true⟩,A2,c2'⟩:PE)]).length=pl+1:=by rw[List.length_append,HPL2.out];rfl
      have hSL9':SL wA 69 3 A9 (lp++[(⟨⟨x,pn k,z k,true⟩,A2,c2'⟩:PE)]).length c9 ((lp++[(⟨⟨x,pn k,z k,true⟩,A2,c2'⟩:PE)]).flatMap PE.cells):=by
       rw[hlen9,List.flatMap_append]
       exact hSL9
      have TF:=T9.setP hK9 hA9n hSL9' hpk9 (fun e he=>by rcases List.mem_append.1 he with he | he;exact T9.pr e.v (by rw[←T9.pv];exact List.mem_map_of_mem he);(have:e=(⟨⟨x,pn k,z k,true⟩,A2,c2'⟩:PE):=by simpa using he);rw[this];exact⟨r0,r1⟩)
      rw[hlen9]at TF
      have hbA:Below Bn w3 wA:=KeepF.below ((show Below Bn w3 W6 from B6.out).trans (hb2.mono hs6)) (hK9.mono (G:=W) (fun j ⟨a,ha,e2⟩=>by rw[e2];exact T2.wp a ha)) RR.out.wB (Nat.le_trans hs6 hb2.size)
      have hsA:Bn≤wA.heap.size:=Nat.le_trans (Nat.le_trans hs6 hb2.size) hK9.size
      have hsn:Bn≤w2'.heap.size:=Nat.le_trans hs6 hb2.size
      have hRBx:∀j,(R j∨∃a,A2=some a∧j=a.block)→Bn≤j:=fun j hr=>by
       rcases hr with hr | ⟨a,ha,e⟩
       ·exact RR.out.rB j hr
       ·have:=hFl a ha
        have:=hbF
        omega
      have hWBx:∀j,(W j∨∃a,A9=some a∧j=a.block)→Bn≤j:=fun j hr=>by
       rcases hr with hr | ⟨a,ha,e⟩
       ·exact RR.out.wB j hr
       ·rcases hA9n a ha with ⟨a',ha',e'⟩ | hge
        ·have:=RR.out.wB a'.block (T2.wp a' ha');omega
        ·omega
      have HTF:=zh TF
      have HBF:=zh (show Below Bn w3 (wA.setCell ⟨g,43,none⟩ (.slice A9 (pl+1) c9))from hbA.setCell (p:=⟨g,43,none⟩) hgB _)
      have HRB:=zh hRBx
      have HWB:=zh hWBx
      have hS9:KeepF (fun j=>j=g∨∃a,pA=some a∧j=a.block) W6 (wA.setCell ⟨g,43,none⟩ (.slice A9 (pl+1) c9)):=hHeld.setCell (p:=⟨g,43,none⟩) (.inl rfl) _
      clear TF hSL9 hSL9' hpk9 hK9 hA9 hA9n T9 hg9 hSL hRBx hWBx hbA
      go_simp
      refine hK.out _ _ hS9 (fun hHeld=>?_)
      clear hK K hS9
      try simp only[Act.put]
      refine wpAnyH_done (by kernel_rfl) ?_ _
      go_wp2
      go_roundw
      case rel=>first | exact⟨k+1,_,_,_,_,_,by omega,by go_num,HST.out _ _ _ _ _ _ _ HTF.out,HWB.out,HRB.out,HBF.out⟩ | ((repeat apply Exists.intro);exact⟨⟨by omega,by go_num,HST.out _ _ _ _ _ _ _ HTF.out,HWB.out,HRB.out,HBF.out⟩,rfl⟩)
      case measure=>simp[intOf];omega
     ·rw[if_pos (by rfl)]
      go_simp
      obtain⟨w2',hv⟩:∃X,X=w1'.alloc (.cells #[.int .u32 x,.slice A2 (pn k) c2',.bool true] 69):=⟨_,rfl⟩
      obtain⟨nb,hnb⟩:∃nb,nb=w1'.heap.size:=⟨_,rfl⟩
      have hbk:Below w1'.heap.size w1' w2':=by rw[hv];exact(Below.refl _ _).alloc (Nat.le_refl _) _
      have hNB:Blk w2' nb 69 #[.int .u32 x,.slice A2 (pn k) c2',.bool true]:=by rw[hv,hnb];exact Blk.new _ _ _
      have T2:=T1.below hbk
      have hb2:Below W6.heap.size W6 w2':=hb1.trans (hbk.mono hb1.size)
      replace hR2:=hR2.next hbk
      replace hFr:∀a,A2=some a→a.block < w2'.heap.size:=fun a e=>Nat.lt_of_lt_of_le (hFr a e) hbk.size
      rw[←hv,←hnb]
      refine hK.out _ _ (hHeld.more hbk) (fun hHeld=>?_)
      clear hK K hbk hv hnb
      try simp only[Act.put,List.setIfInBounds_toArray,List.set_cons_zero,List.set_cons_succ]
      refine wpAnyH_ready (rs:=[4]) (by kernel_rfl) (by simp) ?_
      refine AllReadyH.cons (o:=⟨some 41,_,_,_,_,_⟩) rfl (fun K hK=>?_) AllReadyH.nil
      rw[if_pos (by rfl)]
      have h43:=T2.cp
      rw[←HPL2.out]at h43
      go_simp
      refine hK.out _ _ hHeld (fun hHeld=>?_)
      clear hK K h43
      try simp only[Act.put,List.setIfInBounds_toArray,List.set_cons_zero,List.set_cons_succ]
      refine wpAnyH_ready (rs:=[13]) (by kernel_rfl) (by simp) ?_
      refine AllReadyH.cons (o:=⟨some 50,_,_,_,_,_⟩) rfl (fun K hK=>?_) AllReadyH.nil
      rw[if_pos (by rfl)]
      have hSL:=T2.p
      rw[←HPL2.out]at hSL
      refine wp_sl_append _ _ _ _ rfl w2' 69 ip (.agg #[.int .u32 0,.slice none 0 0,.bool false]) 3 40 Tryz.underlying64 hip hipz hips hipb rfl pA pl pc' (lp.flatMap PE.cells) rfl hSL _ rfl 1 [.int .u32 x,.slice A2 (pn k) c2',.bool true] (Src.ofSlice _ Tryz.underlying64 ⟨nb,0,none⟩ 1 1 _ rfl (fun j u hu=>by
        have hj:j < 3:=(List.getElem?_eq_some_iff.1 hu).1
        rw[Addr.add_lit,Nat.zero_add,hNB.cell j]
        simpa using hu) (by simp[Value.oneCell'])) (by decide) (by unfold maxLen;have:=HPL.out;have:=HPL2.out;omega) (by have:=HPL.out;have:=HPL2.out;omega) ?_
      intro A9 c9 wA hSL9 hK9 hA9
      dsimp only
      have hA9n:∀a,A9=some a→(∃a',pA=some a'∧a.block=a'.block)∨w2'.heap.size≤a.block:=hA9
      refine hK.out _ _ (hHeld.trans hK9 (fun j _ hj=>.inr hj)) (fun hHeld=>?_)
      clear hK K
      try simp only[Act.put,List.setIfInBounds_toArray,List.set_cons_zero,List.set_cons_succ]
      refine tkH (i:=14) (oi:=⟨some 51,_,_,_,_,_⟩) (v:=.pointer (some ⟨g,0,none⟩)) rfl (Or.inl ⟨by rfl,fun W hW=>(by go_simp)⟩) (by assumption) ?_
      refine tkH (i:=15) (oi:=⟨some 52,_,_,_,_,_⟩) (v:=.pointer (some ⟨g,43,none⟩)) rfl (Or.inl ⟨by rfl,fun W hW=>(by go_simp)⟩) (by assumption) ?_
      refine wpAnyH_ready (rs:=[16]) (by kernel_rfl) (by simp) ?_
      refine AllReadyH.cons (o:=⟨none,_,_,_,_,_⟩) rfl (fun K hK=>?_) AllReadyH.nil
      rw[if_pos (by rfl)]
      have hg9:Blk wA g 66 _:=hK9.blk T2.blk (fun⟨a,ha,e⟩=>T2.gp a ha e)
      have hc43:wA.cell? ⟨g,43,none⟩=some (.slice pA lp.length pc'):=(hg9.cell 43).trans (tArr_high (resS cf N k ct pn z 0 qn y).C.arr_size 4)
      have hf43:=hg9.frozen 43
      have T9:=T2.moreR (R':=fun j=>R j∨∃a,A2=some a∧j=a.block) (fun j hj=>.inl hj) (fun j hw hr=>by rcases hr with hr | ⟨a,ha,e⟩;exact T2.dis j hw hr;exact hW2 j hw a ha e) (fun j hr=>by rcases hr with hr | ⟨a,ha,e⟩;exact T2.rin j hr;(rw[e];exact hFr a ha))
      have hpk9:∀e:PE,e∈lp++[(⟨⟨x,pn k,z k,true⟩,A2,c2'⟩:PE)]→Pkt wA (fun j=>R j∨∃a,A2=some a∧j=a.block) e.A e.v.n e.c e.v.z:=fun e he=>by
       have hx:Pkt w2' (fun j=>R j∨∃a,A2=some a∧j=a.block) e.A e.v.n e.c e.v.z:=by
        rcases List.mem_append.1 he with he | he
        ·exact T9.pe e he
        ·have:e=(⟨⟨x,pn k,z k,true⟩,A2,c2'⟩:PE):=by simpa using he
         rw[this]
         exact Pkt.of_clone hp1 hp9 hc2 HBY.out hR2
       exact hx.keep hK9 (fun j ⟨a,ha,e2⟩ hr=>T9.dis j (by rw[e2];exact T9.wp a ha) hr)
      have hlen9:(lp++[(⟨⟨x,pn k,z k,true⟩,A2,c2'⟩:PE)]).length=pl+1:=by rw[List.length_append,HPL2.out];rfl
      have hSL9':SL wA 69 3 A9 (lp++[(⟨⟨x,pn k,z k,true⟩,A2,c2'⟩:PE)]).length c9 ((lp++[(⟨⟨x,pn k,z k,true⟩,A2,c2'⟩:PE)]).flatMap PE.cells):=by
       rw[hlen9,List.flatMap_append]
       exact hSL9
      have TF:=T9.setP hK9 hA9n hSL9' hpk9 (fun e he=>by rcases List.mem_append.1 he with he | he;exact T9.pr e.v (by rw[←T9.pv];exact List.mem_map_of_mem he);(have:e=(⟨⟨x,pn k,z k,true⟩,A2,c2'⟩:PE):=by simpa using he);rw[this];exact⟨r0,r1⟩)
      rw[hlen9]at TF
      have hbA:Below Bn w3 wA:=KeepF.below ((show Below Bn w3 W6 from B6.out).trans (hb2.mono hs6)) (hK9.mono (G:=W) (fun j ⟨a,ha,e2⟩=>by rw[e2];exact T2.wp a ha)) RR.out.wB (Nat.le_trans hs6 hb2.size)
      have hsA:Bn≤wA.heap.size:=Nat.le_trans (Nat.le_trans hs6 hb2.size) hK9.size
      have hsn:Bn≤w2'.heap.size:=Nat.le_trans hs6 hb2.size
      have hRBx:∀j,(R j∨∃a,A2=some a∧j=a.block)→Bn≤j:=fun j hr=>by
       rcases hr with hr | ⟨a,ha,e⟩
       ·exact RR.out.rB j hr
       ·have:=hFl a ha
        have:=hbF
        omega
      have hWBx:∀j,(W j∨∃a,A9=some a∧j=a.block)→Bn≤j:=fun j hr=>by
       rcases hr with hr | ⟨a,ha,e⟩
       ·exact RR.out.wB j hr
       ·rcases hA9n a ha with ⟨a',ha',e'⟩ | hge
        ·have:=RR.out.wB a'.block (T2.wp a' ha');omega
        ·omega
      have HTF:=zh TF
      have HBF:=zh (show Below Bn w3 (wA.setCell ⟨g,43,none⟩ (.slice A9 (pl+1) c9))from hbA.setCell (p:=⟨g,43,none⟩) hgB _)
      have HRB:=zh hRBx
      have HWB:=zh hWBx
      have hS9:KeepF (fun j=>j=g∨∃a,pA=some a∧j=a.block) W6 (wA.setCell ⟨g,43,none⟩ (.slice A9 (pl+1) c9)):=hHeld.setCell (p:=⟨g,43,none⟩) (.inl rfl) _
      clear TF hSL9 hSL9' hpk9 hK9 hA9 hA9n T9 hg9 hSL hRBx hWBx hbA
      go_simp
      refine hK.out _ _ hS9 (fun hHeld=>?_)
      clear hK K hS9
      try simp only[Act.put]
      refine wpAnyH_done (by kernel_rfl) ?_ _
      go_wp2
      go_roundw
      case rel=>first | exact⟨k+1,_,_,_,_,_,by omega,by go_num,HST.out _ _ _ _ _ _ _ HTF.out,HWB.out,HRB.out,HBF.out⟩ | ((repeat apply Exists.intro);exact⟨⟨by omega,by go_num,HST.out _ _ _ _ _ _ _ HTF.out,HWB.out,HRB.out,HBF.out⟩,rfl⟩)
      case measure=>simp[intOf];omega
   ·obtain rfl:k=m:=by omega
    have ys3:wr.cell? ⟨zb+1,3,none⟩=some (.slice A2 mq c2):=(BS.out.below RR.out.b hzl).cell 3
    have HRP:=zh RR.out.t.pv
    go_wp2
    go_loopw [57] (fun v wq=>∃(j:Nat) (W R:Nat→Prop) (qA:Option Addr) (qc':Nat) (lq:List WE),j≤mq∧v=.int .i64 j∧RL cf N Bn w3 g ub cb k ct pn z j qn y W R qA qc' lq pA pc' lp wq) (fun v _=>mq-(intOf v).toNat)
    case atStart=>exact⟨0,_,_,_,_,_,by omega,rfl,RR.out⟩
    case round=>
     clear RR hbs hgl ys3
     obtain⟨j,W,R,qA,qc',lq,hj,rfl,hRL⟩:=hrel
     have RR:=zh hRL
     have hbs:Bn≤wr.heap.size:=by have:=hRL.b.size;omega
     have hgl:g < wr.heap.size:=hRL.t.blk.lt
     clear hRL
     by_cases hlt:j < mq
     ·obtain⟨lb,lo,rfl,hlb,hlc⟩:=HQ.out.at_ (by omega)
      have hw3:lb < Bn:=by omega
      have q1:wr.cell? ⟨lb,lo+j,none⟩=some (.slice (QA j) (qn j) (qc j)):=(RR.out.b.cell (p:=⟨lb,lo+j,none⟩) hw3).trans ((D3.out.cell (p:=⟨lb,lo+j,none⟩) hlb).trans (hlc j hlt))
      obtain⟨hp1,hp9⟩:=(fits_iff _).1 (HFO.out.queue j hlt)
      have R6:=zh (show Row wr wr.heap.size (QA j) (qn j) (fun i=>.int .u8 (y j i))from (((HQ.out.row j hlt).below D3.out).below (RR.out.b.mono hbw)).more (Nat.le_trans hbw hbs))
      have HBY:=zh (HQ.out.byte j hlt)
      have HPL:=zh (show lq.length=j from by have:=congrArg List.length RR.out.t.qv;simpa[resS,resQ_len]using this)
      have HRS:=zh (resQ_succ j qn y)
      have k0:(0:Int)≤(j:Int):=by omega
      have k1:(j:Int) < (mq:Int):=by omega
      clear hlc
      go_upto_region 12 with (fail)
      clear q1
      obtain⟨W6,rfl⟩:∃W6:World,W6=wr:=⟨_,rfl⟩
      have T6:=zh RR.out.t
      have B6:=zh RR.out.b
      have hs6:Bn≤W6.heap.size:=hbs
      obtain⟨w0,hw0⟩:∃w0,w0=W6.drew:=⟨_,rfl⟩
      have T0:TxM w0 g (resS cf N k ct pn z j qn y) W R qA qc' lq pA pc' lp ub cb:=by rw[hw0];exact T6.out.below (Below.refl _ _).drew
      have hb0:Below W6.heap.size W6 w0:=by rw[hw0];exact(Below.refl _ _).drew
      obtain⟨iw,hiw,hiwz,hiws,hiwb⟩:=infoWait
      refine wp_region_held_drew (S:=fun w'=>KeepF (fun j=>j=g∨∃a,qA=some a∧j=a.block) W6 w') (by kernel_rfl) ((KeepF.refl (w:=W6)).drew) (fun hHeld=>?_)
      rw[←hw0]
      rw[←hw0]at hHeld
      clear hw0
      obtain⟨ql,hql⟩:∃ql,ql=lq.length:=⟨_,rfl⟩
      have HPL2:=zh hql
      clear hql
      have hbF:Bn≤w0.heap.size:=Nat.le_trans hs6 hb0.size
      have HST:=zh (fun(W':World) (W2 R2:Nat→Prop) (A9 A2:Option Addr) (c9 c2':Nat) (h:TxM W' g { resS cf N k ct pn z j qn y with Q:=(lq++[(⟨⟨qn j,y j,0⟩,A2,c2'⟩:WE)]).map (·.v) } W2 R2 A9 c9 (lq++[(⟨⟨qn j,y j,0⟩,A2,c2'⟩:WE)]) pA pc' lp ub cb)=>(show TxM W' g (resS cf N k ct pn z (j+1) qn y) W2 R2 A9 c9 (lq++[(⟨⟨qn j,y j,0⟩,A2,c2'⟩:WE)]) pA pc' lp ub cb from by
       have e1:(lq++[(⟨⟨qn j,y j,0⟩,A2,c2'⟩:WE)]).map (·.v)=resQ (j+1) qn y:=by
        rw[HRS.out,List.map_append,RR.out.t.qv];rfl
       rw[e1]at h
       exact h))
      refine tkH (i:=0) (oi:=⟨some 61,_,_,_,_,_⟩) (v:=.pointer (some ⟨g,0,none⟩)) rfl (Or.inl ⟨by rfl,fun W hW=>(by rfl)⟩) (by assumption) ?_
      refine tkH (i:=1) (oi:=⟨some 62,_,_,_,_,_⟩) (v:=.pointer (some ⟨g,0,none⟩)) rfl (Or.inl ⟨by rfl,fun W hW=>(by rfl)⟩) (by assumption) ?_
      refine tkH (i:=2) (oi:=⟨some 63,_,_,_,_,_⟩) (v:=.pointer (some ⟨g,0,none⟩)) rfl (Or.inl ⟨by rfl,fun W hW=>(by go_simp)⟩) (by assumption) ?_
      refine tkH (i:=3) (oi:=⟨some 64,_,_,_,_,_⟩) (v:=.pointer (some ⟨g,42,none⟩)) rfl (Or.inl ⟨by rfl,fun W hW=>(by go_simp)⟩) (by assumption) ?_
      refine tkH (i:=5) (oi:=⟨some 66,_,_,_,_,_⟩) (v:=.slice (QA j) (qn j) (qc j)) rfl (Or.inl ⟨by rfl,fun W hW=>(by rfl)⟩) (by assumption) ?_
      refine wpAnyH_ready (rs:=[4,6]) (by kernel_rfl) (by simp) ?_
      refine AllReadyH.cons (o:=⟨some 65,_,_,_,_,_⟩) rfl (fun K hK=>?_) (AllReadyH.cons (o:=⟨some 67,_,_,_,_,_⟩) rfl (fun K hK=>?_) AllReadyH.nil)
      ·rw[if_pos (by rfl)]
       have h43:=T0.cq
       rw[←HPL2.out]at h43
       go_simp
       refine hK.out _ _ hHeld (fun hHeld=>?_)
       clear hK K h43
       try simp only[Act.put,List.setIfInBounds_toArray,List.set_cons_zero,List.set_cons_succ]
       refine wpAnyH_ready (rs:=[6]) (by kernel_rfl) (by simp) ?_
       refine AllReadyH.cons (o:=⟨some 67,_,_,_,_,_⟩) rfl (fun K hK=>?_) AllReadyH.nil
       rw[if_pos (by rfl)]
       go_simp
       refine(clone_any (QA j) (qn j) (qc j) (y j) w0 (by omega) (R6.out.next hb0)).mono ?_
       rintro e w1' ⟨A2,c2',rfl,hc2,hR2,hF2,hbk⟩
       dsimp only
       have hFl:∀a,A2=some a→w0.heap.size≤a.block:=hF2
       have hFr:∀a,A2=some a→a.block < w1'.heap.size:=fun a e=>row_lt hR2 hp1 e
       have hwl1:∀j,W j→j < w0.heap.size:=T0.win
       have T1:=T0.below hbk
       have hb1:Below W6.heap.size W6 w1':=hb0.trans (hbk.mono hb0.size)
       have hW2:∀j,W j→∀a,A2=some a→j ≠ a.block:=fun j hj a e=>by have:=hFl a e;have:=hwl1 j hj;omega
       refine hK.out _ _ (hHeld.more hbk) (fun hHeld=>?_)
       clear hK K hbk hF2
       try simp only[Act.put,List.setIfInBounds_toArray,List.set_cons_zero,List.set_cons_succ]
       refine tkH (i:=7) (oi:=⟨some 68,_,_,_,_,_⟩) (v:=.agg #[.slice A2 (qn j) c2',.int .i64 0]) rfl (Or.inl ⟨by rfl,fun W hW=>(by go_simp)⟩) (by assumption) ?_
       refine wpAnyH_ready (rs:=[8]) (by kernel_rfl) (by simp) ?_
       refine AllReadyH.cons (o:=⟨some 69,_,_,_,_,_⟩) rfl (fun K hK=>?_) AllReadyH.nil
       rw[if_pos (by rfl)]
       go_simp
       obtain⟨w2',hv⟩:∃X,X=w1'.alloc (.cells #[.slice A2 (qn j) c2',.int .i64 0] 71):=⟨_,rfl⟩
       obtain⟨nb,hnb⟩:∃nb,nb=w1'.heap.size:=⟨_,rfl⟩
       have hbk:Below w1'.heap.size w1' w2':=by rw[hv];exact(Below.refl _ _).alloc (Nat.le_refl _) _
       have hNB:Blk w2' nb 71 #[.slice A2 (qn j) c2',.int .i64 0]:=by rw[hv,hnb];exact Blk.new _ _ _
       have T2:=T1.below hbk
       have hb2:Below W6.heap.size W6 w2':=hb1.trans (hbk.mono hb1.size)
       replace hR2:=hR2.next hbk
       replace hFr:∀a,A2=some a→a.block < w2'.heap.size:=fun a e=>Nat.lt_of_lt_of_le (hFr a e) hbk.size
       rw[←hv,←hnb]
       refine hK.out _ _ (hHeld.more hbk) (fun hHeld=>?_)
       clear hK K hbk hv hnb
       try simp only[Act.put,List.setIfInBounds_toArray,List.set_cons_zero,List.set_cons_succ]
       refine wpAnyH_ready (rs:=[9]) (by kernel_rfl) (by simp) ?_
       refine AllReadyH.cons (o:=⟨some 70,_,_,_,_,_⟩) rfl (fun K hK=>?_) AllReadyH.nil
       rw[if_pos (by rfl)]
       have hSL:=T2.q
       rw[←HPL2.out]at hSL
       refine wp_sl_append _ _ _ _ rfl w2' 71 iw (.agg #[.slice none 0 0,.int .i64 0]) 2 32 Tryz.underlying63 hiw hiwz hiws hiwb rfl qA ql qc' (lq.flatMap WE.cells) rfl hSL _ rfl 1 [.slice A2 (qn j) c2',.int .i64 0] (Src.ofSlice _ Tryz.underlying63 ⟨nb,0,none⟩ 1 1 _ rfl (fun j u hu=>by
         have hj:j < 2:=(List.getElem?_eq_some_iff.1 hu).1
         rw[Addr.add_lit,Nat.zero_add,hNB.cell j]
         simpa using hu) (by simp[Value.oneCell'])) (by decide) (by unfold maxLen;have:=HPL.out;have:=HPL2.out;omega) (by have:=HPL.out;have:=HPL2.out;omega) ?_
       intro A9 c9 wA hSL9 hK9 hA9
       dsimp only
       have hA9n:∀a,A9=some a→(∃a',qA=some a'∧a.block=a'.block)∨w2'.heap.size≤a.block:=hA9
       refine hK.out _ _ (hHeld.trans hK9 (fun j _ hj=>.inr hj)) (fun hHeld=>?_)
       clear hK K
       try simp only[Act.put,List.setIfInBounds_toArray,List.set_cons_zero,List.set_cons_succ]
       refine tkH (i:=10) (oi:=⟨some 71,_,_,_,_,_⟩) (v:=.pointer (some ⟨g,0,none⟩)) rfl (Or.inl ⟨by rfl,fun W hW=>(by go_simp)⟩) (by assumption) ?_
       refine tkH (i:=11) (oi:=⟨some 72,_,_,_,_,_⟩) (v:=.pointer (some ⟨g,42,none⟩)) rfl (Or.inl ⟨by rfl,fun W hW=>(by go_simp)⟩) (by assumption) ?_
       refine wpAnyH_ready (rs:=[12]) (by kernel_rfl) (by simp) ?_
       refine AllReadyH.cons (o:=⟨none,_,_,_,_,_⟩) rfl (fun K hK=>?_) AllReadyH.nil
       rw[if_pos (by rfl)]
       have hg9:Blk wA g 66 _:=hK9.blk T2.blk (fun⟨a,ha,e⟩=>T2.gq a ha e)
       have hc43:wA.cell? ⟨g,42,none⟩=some (.slice qA lq.length qc'):=(hg9.cell 42).trans (tArr_high (resS cf N k ct pn z j qn y).C.arr_size 3)
       have hf43:=hg9.frozen 42
       have T9:=T2.moreR (R':=fun j=>R j∨∃a,A2=some a∧j=a.block) (fun j hj=>.inl hj) (fun j hw hr=>by rcases hr with hr | ⟨a,ha,e⟩;exact T2.dis j hw hr;exact hW2 j hw a ha e) (fun j hr=>by rcases hr with hr | ⟨a,ha,e⟩;exact T2.rin j hr;(rw[e];exact hFr a ha))
       have hpk9:∀e:WE,e∈lq++[(⟨⟨qn j,y j,0⟩,A2,c2'⟩:WE)]→Pkt wA (fun j=>R j∨∃a,A2=some a∧j=a.block) e.A e.v.n e.c e.v.z:=fun e he=>by
        have hx:Pkt w2' (fun j=>R j∨∃a,A2=some a∧j=a.block) e.A e.v.n e.c e.v.z:=by
         rcases List.mem_append.1 he with he | he
         ·exact T9.qe e he
         ·have:e=(⟨⟨qn j,y j,0⟩,A2,c2'⟩:WE):=by simpa using he
          rw[this]
          exact Pkt.of_clone hp1 hp9 hc2 HBY.out hR2
        exact hx.keep hK9 (fun j ⟨a,ha,e2⟩ hr=>T9.dis j (by rw[e2];exact T9.wq a ha) hr)
       have hlen9:(lq++[(⟨⟨qn j,y j,0⟩,A2,c2'⟩:WE)]).length=ql+1:=by rw[List.length_append,HPL2.out];rfl
       have hSL9':SL wA 71 2 A9 (lq++[(⟨⟨qn j,y j,0⟩,A2,c2'⟩:WE)]).length c9 ((lq++[(⟨⟨qn j,y j,0⟩,A2,c2'⟩:WE)]).flatMap WE.cells):=by
        rw[hlen9,List.flatMap_append]
        exact hSL9
       have TF:=T9.setQ hK9 hA9n hSL9' hpk9
       rw[hlen9]at TF
       have hbA:Below Bn w3 wA:=KeepF.below ((show Below Bn w3 W6 from B6.out).trans (hb2.mono hs6)) (hK9.mono (G:=W) (fun j ⟨a,ha,e2⟩=>by rw[e2];exact T2.wq a ha)) RR.out.wB (Nat.le_trans hs6 hb2.size)
       have hsA:Bn≤wA.heap.size:=Nat.le_trans (Nat.le_trans hs6 hb2.size) hK9.size
       have hsn:Bn≤w2'.heap.size:=Nat.le_trans hs6 hb2.size
       have hRBx:∀j,(R j∨∃a,A2=some a∧j=a.block)→Bn≤j:=fun j hr=>by
        rcases hr with hr | ⟨a,ha,e⟩
        ·exact RR.out.rB j hr
        ·have:=hFl a ha
         have:=hbF
         omega
       have hWBx:∀j,(W j∨∃a,A9=some a∧j=a.block)→Bn≤j:=fun j hr=>by
        rcases hr with hr | ⟨a,ha,e⟩
        ·exact RR.out.wB j hr
        ·rcases hA9n a ha with ⟨a',ha',e'⟩ | hge
         ·have:=RR.out.wB a'.block (T2.wq a' ha');omega
         ·omega
       have HTF:=zh TF
       have HBF:=zh (show Below Bn w3 (wA.setCell ⟨g,42,none⟩ (.slice A9 (ql+1) c9))from hbA.setCell (p:=⟨g,42,none⟩) hgB _)
       have HRB:=zh hRBx
       have HWB:=zh hWBx
       have hS9:KeepF (fun j=>j=g∨∃a,qA=some a∧j=a.block) W6 (wA.setCell ⟨g,42,none⟩ (.slice A9 (ql+1) c9)):=hHeld.setCell (p:=⟨g,42,none⟩) (.inl rfl) _
       clear TF hSL9 hSL9' hpk9 hK9 hA9 hA9n T9 hg9 hSL hRBx hWBx hbA
       go_simp
       refine hK.out _ _ hS9 (fun hHeld=>?_)
       clear hK K hS9
       try simp only[Act.put]
       refine wpAnyH_done (by kernel_rfl) ?_ _
       go_wp2
       go_roundw
       case rel=>first | exact⟨j+1,_,_,_,_,_,by omega,by go_num,HST.out _ _ _ _ _ _ _ HTF.out,HWB.out,HRB.out,HBF.out⟩ | ((repeat apply Exists.intro);exact⟨⟨by omega,by go_num,HST.out _ _ _ _ _ _ _ HTF.out,HWB.out,HRB.out,HBF.out⟩,rfl⟩)
       case measure=>simp[intOf];omega
      ·rw[if_pos (by rfl)]
       go_simp
       refine(clone_any (QA j) (qn j) (qc j) (y j) w0 (by omega) (R6.out.next hb0)).mono ?_
       rintro e w1' ⟨A2,c2',rfl,hc2,hR2,hF2,hbk⟩
       dsimp only
       have hFl:∀a,A2=some a→w0.heap.size≤a.block:=hF2
       have hFr:∀a,A2=some a→a.block < w1'.heap.size:=fun a e=>row_lt hR2 hp1 e
       have hwl1:∀j,W j→j < w0.heap.size:=T0.win
       have T1:=T0.below hbk
       have hb1:Below W6.heap.size W6 w1':=hb0.trans (hbk.mono hb0.size)
       have hW2:∀j,W j→∀a,A2=some a→j ≠ a.block:=fun j hj a e=>by have:=hFl a e;have:=hwl1 j hj;omega
       refine hK.out _ _ (hHeld.more hbk) (fun hHeld=>?_)
       clear hK K hbk hF2
       try simp only[Act.put,List.setIfInBounds_toArray,List.set_cons_zero,List.set_cons_succ]
       refine tkH (i:=7) (oi:=⟨some 68,_,_,_,_,_⟩) (v:=.agg #[.slice A2 (qn j) c2',.int .i64 0]) rfl (Or.inl ⟨by rfl,fun W hW=>(by go_simp)⟩) (by assumption) ?_
       refine wpAnyH_ready (rs:=[4,8]) (by kernel_rfl) (by simp) ?_
       refine AllReadyH.cons (o:=⟨some 65,_,_,_,_,_⟩) rfl (fun K hK=>?_) (AllReadyH.cons (o:=⟨some 69,_,_,_,_,_⟩) rfl (fun K hK=>?_) AllReadyH.nil)
       ·rw[if_pos (by rfl)]
        have h43:=T1.cq
        rw[←HPL2.out]at h43
        go_simp
        refine hK.out _ _ hHeld (fun hHeld=>?_)
        clear hK K h43
        try simp only[Act.put,List.setIfInBounds_toArray,List.set_cons_zero,List.set_cons_succ]
        refine wpAnyH_ready (rs:=[8]) (by kernel_rfl) (by simp) ?_
        refine AllReadyH.cons (o:=⟨some 69,_,_,_,_,_⟩) rfl (fun K hK=>?_) AllReadyH.nil
        rw[if_pos (by rfl)]
        go_simp
        obtain⟨w2',hv⟩:∃X,X=w1'.alloc (.cells #[.slice A2 (qn j) c2',.int .i64 0] 71):=⟨_,rfl⟩
        obtain⟨nb,hnb⟩:∃nb,nb=w1'.heap.size:=⟨_,rfl⟩
        have hbk:Below w1'.heap.size w1' w2':=by rw[hv];exact(Below.refl _ _).alloc (Nat.le_refl _) _
        have hNB:Blk w2' nb 71 #[.slice A2 (qn j) c2',.int .i64 0]:=by rw[hv,hnb];exact Blk.new _ _ _
        have T2:=T1.below hbk
        have hb2:Below W6.heap.size W6 w2':=hb1.trans (hbk.mono hb1.size)
        replace hR2:=hR2.next hbk
        replace hFr:∀a,A2=some a→a.block < w2'.heap.size:=fun a e=>Nat.lt_of_lt_of_le (hFr a e) hbk.size
        rw[←hv,←hnb]
        refine hK.out _ _ (hHeld.more hbk) (fun hHeld=>?_)
        clear hK K hbk hv hnb
        try simp only[Act.put,List.setIfInBounds_toArray,List.set_cons_zero,List.set_cons_succ]
        refine wpAnyH_ready (rs:=[9]) (by kernel_rfl) (by simp) ?_
        refine AllReadyH.cons (o:=⟨some 70,_,_,_,_,_⟩) rfl (fun K hK=>?_) AllReadyH.nil
        rw[if_pos (by rfl)]
        have hSL:=T2.q
        rw[←HPL2.out]at hSL
        refine wp_sl_append _ _ _ _ rfl w2' 71 iw (.agg #[.slice none 0 0,.int .i64 0]) 2 32 Tryz.underlying63 hiw hiwz hiws hiwb rfl qA ql qc' (lq.flatMap WE.cells) rfl hSL _ rfl 1 [.slice A2 (qn j) c2',.int .i64 0] (Src.ofSlice _ Tryz.underlying63 ⟨nb,0,none⟩ 1 1 _ rfl (fun j u hu=>by
          have hj:j < 2:=(List.getElem?_eq_some_iff.1 hu).1
          rw[Addr.add_lit,Nat.zero_add,hNB.cell j]
          simpa using hu) (by simp[Value.oneCell'])) (by decide) (by unfold maxLen;have:=HPL.out;have:=HPL2.out;omega) (by have:=HPL.out;have:=HPL2.out;omega) ?_
        intro A9 c9 wA hSL9 hK9 hA9
        dsimp only
        have hA9n:∀a,A9=some a→(∃a',qA=some a'∧a.block=a'.block)∨w2'.heap.size≤a.block:=hA9
        refine hK.out _ _ (hHeld.trans hK9 (fun j _ hj=>.inr hj)) (fun hHeld=>?_)
        clear hK K
        try simp only[Act.put,List.setIfInBounds_toArray,List.set_cons_zero,List.set_cons_succ]
        refine tkH (i:=10) (oi:=⟨some 71,_,_,_,_,_⟩) (v:=.pointer (some ⟨g,0,none⟩)) rfl (Or.inl ⟨by rfl,fun W hW=>(by go_simp)⟩) (by assumption) ?_
        refine tkH (i:=11) (oi:=⟨some 72,_,_,_,_,_⟩) (v:=.pointer (some ⟨g,42,none⟩)) rfl (Or.inl ⟨by rfl,fun W hW=>(by go_simp)⟩) (by assumption) ?_
        refine wpAnyH_ready (rs:=[12]) (by kernel_rfl) (by simp) ?_
        refine AllReadyH.cons (o:=⟨none,_,_,_,_,_⟩) rfl (fun K hK=>?_) AllReadyH.nil
        rw[if_pos (by rfl)]
        have hg9:Blk wA g 66 _:=hK9.blk T2.blk (fun⟨a,ha,e⟩=>T2.gq a ha e)
        have hc43:wA.cell? ⟨g,42,none⟩=some (.slice qA lq.length qc'):=(hg9.cell 42).trans (tArr_high (resS cf N k ct pn z j qn y).C.arr_size 3)
        have hf43:=hg9.frozen 42
        have T9:=T2.moreR (R':=fun j=>R j∨∃a,A2=some a∧j=a.block) (fun j hj=>.inl hj) (fun j hw hr=>by rcases hr with hr | ⟨a,ha,e⟩;exact T2.dis j hw hr;exact hW2 j hw a ha e) (fun j hr=>by rcases hr with hr | ⟨a,ha,e⟩;exact T2.rin j hr;(rw[e];exact hFr a ha))
        have hpk9:∀e:WE,e∈lq++[(⟨⟨qn j,y j,0⟩,A2,c2'⟩:WE)]→Pkt wA (fun j=>R j∨∃a,A2=some a∧j=a.block) e.A e.v.n e.c e.v.z:=fun e he=>by
         have hx:Pkt w2' (fun j=>R j∨∃a,A2=some a∧j=a.block) e.A e.v.n e.c e.v.z:=by
          rcases List.mem_append.1 he with he | he
          ·exact T9.qe e he
          ·have:e=(⟨⟨qn j,y j,0⟩,A2,c2'⟩:WE):=by simpa using he
           rw[this]
           exact Pkt.of_clone hp1 hp9 hc2 HBY.out hR2
         exact hx.keep hK9 (fun j ⟨a,ha,e2⟩ hr=>T9.dis j (by rw[e2];exact T9.wq a ha) hr)
        have hlen9:(lq++[(⟨⟨qn j,y j,0⟩,A2,c2'⟩:WE)]).length=ql+1:=by rw[List.length_append,HPL2.out];rfl
        have hSL9':SL wA 71 2 A9 (lq++[(⟨⟨qn j,y j,0⟩,A2,c2'⟩:WE)]).length c9 ((lq++[(⟨⟨qn j,y j,0⟩,A2,c2'⟩:WE)]).flatMap WE.cells):=by
         rw[hlen9,List.flatMap_append]
         exact hSL9
        have TF:=T9.setQ hK9 hA9n hSL9' hpk9
        rw[hlen9]at TF
        have hbA:Below Bn w3 wA:=KeepF.below ((show Below Bn w3 W6 from B6.out).trans (hb2.mono hs6)) (hK9.mono (G:=W) (fun j ⟨a,ha,e2⟩=>by rw[e2];exact T2.wq a ha)) RR.out.wB (Nat.le_trans hs6 hb2.size)
        have hsA:Bn≤wA.heap.size:=Nat.le_trans (Nat.le_trans hs6 hb2.size) hK9.size
        have hsn:Bn≤w2'.heap.size:=Nat.le_trans hs6 hb2.size
        have hRBx:∀j,(R j∨∃a,A2=some a∧j=a.block)→Bn≤j:=fun j hr=>by
         rcases hr with hr | ⟨a,ha,e⟩
         ·exact RR.out.rB j hr
         ·have:=hFl a ha
          have:=hbF
          omega
        have hWBx:∀j,(W j∨∃a,A9=some a∧j=a.block)→Bn≤j:=fun j hr=>by
         rcases hr with hr | ⟨a,ha,e⟩
         ·exact RR.out.wB j hr
         ·rcases hA9n a ha with ⟨a',ha',e'⟩ | hge
          ·have:=RR.out.wB a'.block (T2.wq a' ha');omega
          ·omega
        have HTF:=zh TF
        have HBF:=zh (show Below Bn w3 (wA.setCell ⟨g,42,none⟩ (.slice A9 (ql+1) c9))from hbA.setCell (p:=⟨g,42,none⟩) hgB _)
        have HRB:=zh hRBx
        have HWB:=zh hWBx
        have hS9:KeepF (fun j=>j=g∨∃a,qA=some a∧j=a.block) W6 (wA.setCell ⟨g,42,none⟩ (.slice A9 (ql+1) c9)):=hHeld.setCell (p:=⟨g,42,none⟩) (.inl rfl) _
        clear TF hSL9 hSL9' hpk9 hK9 hA9 hA9n T9 hg9 hSL hRBx hWBx hbA
        go_simp
        refine hK.out _ _ hS9 (fun hHeld=>?_)
        clear hK K hS9
        try simp only[Act.put]
        refine wpAnyH_done (by kernel_rfl) ?_ _
        go_wp2
        go_roundw
        case rel=>first | exact⟨j+1,_,_,_,_,_,by omega,by go_num,HST.out _ _ _ _ _ _ _ HTF.out,HWB.out,HRB.out,HBF.out⟩ | ((repeat apply Exists.intro);exact⟨⟨by omega,by go_num,HST.out _ _ _ _ _ _ _ HTF.out,HWB.out,HRB.out,HBF.out⟩,rfl⟩)
        case measure=>simp[intOf];omega
       ·rw[if_pos (by rfl)]
        go_simp
        obtain⟨w2',hv⟩:∃X,X=w1'.alloc (.cells #[.slice A2 (qn j) c2',.int .i64 0] 71):=⟨_,rfl⟩
        obtain⟨nb,hnb⟩:∃nb,nb=w1'.heap.size:=⟨_,rfl⟩
        have hbk:Below w1'.heap.size w1' w2':=by rw[hv];exact(Below.refl _ _).alloc (Nat.le_refl _) _
        have hNB:Blk w2' nb 71 #[.slice A2 (qn j) c2',.int .i64 0]:=by rw[hv,hnb];exact Blk.new _ _ _
        have T2:=T1.below hbk
        have hb2:Below W6.heap.size W6 w2':=hb1.trans (hbk.mono hb1.size)
        replace hR2:=hR2.next hbk
        replace hFr:∀a,A2=some a→a.block < w2'.heap.size:=fun a e=>Nat.lt_of_lt_of_le (hFr a e) hbk.size
        rw[←hv,←hnb]
        refine hK.out _ _ (hHeld.more hbk) (fun hHeld=>?_)
        clear hK K hbk hv hnb
        try simp only[Act.put,List.setIfInBounds_toArray,List.set_cons_zero,List.set_cons_succ]
        refine wpAnyH_ready (rs:=[4]) (by kernel_rfl) (by simp) ?_
        refine AllReadyH.cons (o:=⟨some 65,_,_,_,_,_⟩) rfl (fun K hK=>?_) AllReadyH.nil
        rw[if_pos (by rfl)]
        have h43:=T2.cq
        rw[←HPL2.out]at h43
        go_simp
        refine hK.out _ _ hHeld (fun hHeld=>?_)
        clear hK K h43
        try simp only[Act.put,List.setIfInBounds_toArray,List.set_cons_zero,List.set_cons_succ]
        refine wpAnyH_ready (rs:=[9]) (by kernel_rfl) (by simp) ?_
        refine AllReadyH.cons (o:=⟨some 70,_,_,_,_,_⟩) rfl (fun K hK=>?_) AllReadyH.nil
        rw[if_pos (by rfl)]
        have hSL:=T2.q
        rw[←HPL2.out]at hSL
        refine wp_sl_append _ _ _ _ rfl w2' 71 iw (.agg #[.slice none 0 0,.int .i64 0]) 2 32 Tryz.underlying63 hiw hiwz hiws hiwb rfl qA ql qc' (lq.flatMap WE.cells) rfl hSL _ rfl 1 [.slice A2 (qn j) c2',.int .i64 0] (Src.ofSlice _ Tryz.underlying63 ⟨nb,0,none⟩ 1 1 _ rfl (fun j u hu=>by
          have hj:j < 2:=(List.getElem?_eq_some_iff.1 hu).1
          rw[Addr.add_lit,Nat.zero_add,hNB.cell j]
          simpa using hu) (by simp[Value.oneCell'])) (by decide) (by unfold maxLen;have:=HPL.out;have:=HPL2.out;omega) (by have:=HPL.out;have:=HPL2.out;omega) ?_
        intro A9 c9 wA hSL9 hK9 hA9
        dsimp only
        have hA9n:∀a,A9=some a→(∃a',qA=some a'∧a.block=a'.block)∨w2'.heap.size≤a.block:=hA9
        refine hK.out _ _ (hHeld.trans hK9 (fun j _ hj=>.inr hj)) (fun hHeld=>?_)
        clear hK K
        try simp only[Act.put,List.setIfInBounds_toArray,List.set_cons_zero,List.set_cons_succ]
        refine tkH (i:=10) (oi:=⟨some 71,_,_,_,_,_⟩) (v:=.pointer (some ⟨g,0,none⟩)) rfl (Or.inl ⟨by rfl,fun W hW=>(by go_simp)⟩) (by assumption) ?_
        refine tkH (i:=11) (oi:=⟨some 72,_,_,_,_,_⟩) (v:=.pointer (some ⟨g,42,none⟩)) rfl (Or.inl ⟨by rfl,fun W hW=>(by go_simp)⟩) (by assumption) ?_
        refine wpAnyH_ready (rs:=[12]) (by kernel_rfl) (by simp) ?_
        refine AllReadyH.cons (o:=⟨none,_,_,_,_,_⟩) rfl (fun K hK=>?_) AllReadyH.nil
        rw[if_pos (by rfl)]
        have hg9:Blk wA g 66 _:=hK9.blk T2.blk (fun⟨a,ha,e⟩=>T2.gq a ha e)
        have hc43:wA.cell? ⟨g,42,none⟩=some (.slice qA lq.length qc'):=(hg9.cell 42).trans (tArr_high (resS cf N k ct pn z j qn y).C.arr_size 3)
        have hf43:=hg9.frozen 42
        have T9:=T2.moreR (R':=fun j=>R j∨∃a,A2=some a∧j=a.block) (fun j hj=>.inl hj) (fun j hw hr=>by rcases hr with hr | ⟨a,ha,e⟩;exact T2.dis j hw hr;exact hW2 j hw a ha e) (fun j hr=>by rcases hr with hr | ⟨a,ha,e⟩;exact T2.rin j hr;(rw[e];exact hFr a ha))
        have hpk9:∀e:WE,e∈lq++[(⟨⟨qn j,y j,0⟩,A2,c2'⟩:WE)]→Pkt wA (fun j=>R j∨∃a,A2=some a∧j=a.block) e.A e.v.n e.c e.v.z:=fun e he=>by
         have hx:Pkt w2' (fun j=>R j∨∃a,A2=some a∧j=a.block) e.A e.v.n e.c e.v.z:=by
          rcases List.mem_append.1 he with he | he
          ·exact T9.qe e he
          ·have:e=(⟨⟨qn j,y j,0⟩,A2,c2'⟩:WE):=by simpa using he
           rw[this]
           exact Pkt.of_clone hp1 hp9 hc2 HBY.out hR2
         exact hx.keep hK9 (fun j ⟨a,ha,e2⟩ hr=>T9.dis j (by rw[e2];exact T9.wq a ha) hr)
        have hlen9:(lq++[(⟨⟨qn j,y j,0⟩,A2,c2'⟩:WE)]).length=ql+1:=by rw[List.length_append,HPL2.out];rfl
        have hSL9':SL wA 71 2 A9 (lq++[(⟨⟨qn j,y j,0⟩,A2,c2'⟩:WE)]).length c9 ((lq++[(⟨⟨qn j,y j,0⟩,A2,c2'⟩:WE)]).flatMap WE.cells):=by
         rw[hlen9,List.flatMap_append]
         exact hSL9
        have TF:=T9.setQ hK9 hA9n hSL9' hpk9
        rw[hlen9]at TF
        have hbA:Below Bn w3 wA:=KeepF.below ((show Below Bn w3 W6 from B6.out).trans (hb2.mono hs6)) (hK9.mono (G:=W) (fun j ⟨a,ha,e2⟩=>by rw[e2];exact T2.wq a ha)) RR.out.wB (Nat.le_trans hs6 hb2.size)
        have hsA:Bn≤wA.heap.size:=Nat.le_trans (Nat.le_trans hs6 hb2.size) hK9.size
        have hsn:Bn≤w2'.heap.size:=Nat.le_trans hs6 hb2.size
        have hRBx:∀j,(R j∨∃a,A2=some a∧j=a.block)→Bn≤j:=fun j hr=>by
         rcases hr with hr | ⟨a,ha,e⟩
         ·exact RR.out.rB j hr
         ·have:=hFl a ha
          have:=hbF
          omega
        have hWBx:∀j,(W j∨∃a,A9=some a∧j=a.block)→Bn≤j:=fun j hr=>by
         rcases hr with hr | ⟨a,ha,e⟩
         ·exact RR.out.wB j hr
         ·rcases hA9n a ha with ⟨a',ha',e'⟩ | hge
          ·have:=RR.out.wB a'.block (T2.wq a' ha');omega
          ·omega
        have HTF:=zh TF
        have HBF:=zh (show Below Bn w3 (wA.setCell ⟨g,42,none⟩ (.slice A9 (ql+1) c9))from hbA.setCell (p:=⟨g,42,none⟩) hgB _)
        have HRB:=zh hRBx
        have HWB:=zh hWBx
        have hS9:KeepF (fun j=>j=g∨∃a,qA=some a∧j=a.block) W6 (wA.setCell ⟨g,42,none⟩ (.slice A9 (ql+1) c9)):=hHeld.setCell (p:=⟨g,42,none⟩) (.inl rfl) _
        clear TF hSL9 hSL9' hpk9 hK9 hA9 hA9n T9 hg9 hSL hRBx hWBx hbA
        go_simp
        refine hK.out _ _ hS9 (fun hHeld=>?_)
        clear hK K hS9
        try simp only[Act.put]
        refine wpAnyH_done (by kernel_rfl) ?_ _
        go_wp2
        go_roundw
        case rel=>first | exact⟨j+1,_,_,_,_,_,by omega,by go_num,HST.out _ _ _ _ _ _ _ HTF.out,HWB.out,HRB.out,HBF.out⟩ | ((repeat apply Exists.intro);exact⟨⟨by omega,by go_num,HST.out _ _ _ _ _ _ _ HTF.out,HWB.out,HRB.out,HBF.out⟩,rfl⟩)
        case measure=>simp[intOf];omega
     ·obtain rfl:j=mq:=by omega
      go_wp2
      go_ret2
      exact⟨g,W,R,rfl,⟨_,_,_,_,_,_,_,_,RR.out.t⟩,fun i hi=>Nat.le_trans hbw (RR.out.wB i hi),fun i hi=>Nat.le_trans hbw (RR.out.rB i hi),D3.out.trans (RR.out.b.mono hbw)⟩
end Go.Proofs.YtjanmleoomoedaaGreat
namespace Go.Proofs.YtjanmleoomoedaaGreat
open Go.RowKit
set_option linter.unusedVariables false
def PE.cc (e:PE):List Value:=[.int .u32 e.v.ct,.slice e.A e.v.n e.c]
def WE.cc (e:WE):List Value:=[.slice e.A e.v.n e.c]
theorem infoCnt:∃i:TypeInfo,Tryz.prog.info? 52 = some i∧i.zero=some (.agg #[.int .u32 0,.slice none 0 0])∧i.size=2∧i.bytes=32:=by
 have h:(Tryz.prog.info? 52).map (fun i=>(i.zero,i.size,i.bytes))=some (some (.agg #[.int .u32 0,.slice none 0 0]),2,32):=by kernel_rfl
 cases hi:Tryz.prog.info? 52 with
 | none=>rw[hi]at h;cases h
 | some i=>
  rw[hi]at h
  simp only[Option.map_some,Option.some.injEq,Prod.mk.injEq]at h
  exact⟨i,rfl,h.1,h.2.1,h.2.2⟩
theorem infoBs:∃i:TypeInfo,Tryz.prog.info? 46 = some i∧i.zero=some (.slice none 0 0)∧i.size=1∧i.bytes=24:=by
 have h:(Tryz.prog.info? 46).map (fun i=>(i.zero,i.size,i.bytes))=some (some (.slice none 0 0),1,24):=by kernel_rfl
 cases hi:Tryz.prog.info? 46 with
 | none=>rw[hi]at h;cases h
 | some i=>
  rw[hi]at h
  simp only[Option.map_some,Option.some.injEq,Prod.mk.injEq]at h
  exact⟨i,rfl,h.1,h.2.1,h.2.2⟩
section
variable {w w1 w':World} {B rb:Nat} {nx:Int} {us:Bool} {W R R' F:Nat→Prop} {qA qA':Option Addr} {qc qc':Nat} {lq lq':List WE} {pA pA':Option Addr} {pc pc':Nat} {lp lp':List PE}
end
end Go.Proofs.YtjanmleoomoedaaGreat

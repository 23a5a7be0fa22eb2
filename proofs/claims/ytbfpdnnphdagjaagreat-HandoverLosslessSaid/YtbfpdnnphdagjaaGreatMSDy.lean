import Derived.Test.YtbfpdnnphdagjaaGreatMZOy
import Derived.Test.YtbfpdnnphdagjaaGreatMDQy
import Derived.Test.YtbfpdnnphdagjaaGreatMZMy
import Derived.Test.YtbfpdnnphdagjaaGreatMCFy
import Derived.Deep.Slices
import Derived.Test.YtbfpdnnphdagjaaGreatB1y
set_option maxRecDepth 100000
set_option maxHeartbeats 3200000
set_option linter.unusedVariables false
set_option linter.unusedSimpArgs false
namespace Go.Proofs.YtbfpdnnphdagjaaGreat
open Go.RowKit
attribute [local go_sem ↓] Go.wp_at_zero Go.wp_at_succ
def gR (f g:Nat->Int):Bool:=(List.range 16).all fun j=>decide (f j=g j)
theorem uf {f g:Nat->Int}:gR f g=true↔∀j,j < 16->f j=g j:=by
 unfold gR;simp
theorem qE (f g:Nat->Int) (d:Nat):∀(is:List Nat) (_:∀i,i∈is->i < 16) (w:World),(Op.eqItems (d+1) 5 1 (aj f) (aj g) is).run Tryz.prog w=.ok (is.all fun j=>decide (f j=g j)) w
 | [],_,w=>by simp[Op.eqItems]
 | i :: is,h,w=>by
  simp only[Op.eqItems,Sem.run_bind,xL f i (h i (by simp)) w,xL g i (h i (by simp)) w,Result.andThen_ok];have hr:=qE f g d is (fun j hj=>h j (by simp[hj])) w;by_cases e:f i=g i
  ·simp[go_sem,hr,e]
  ·have e2:(f i == g i)=false:=by simpa using e
   simp[go_sem,e,e2]
theorem Bl (f g:Nat->Int) (d:Nat) (w:World):(Op.equalIn (d+2) 23 (.agg (aj f)) (.agg (aj g))).run Tryz.prog w=.ok (gR f g) w:=by
 obtain⟨q,hq,_⟩:=info_parts Tryz.infoByte;rw[run_equalIn_array w (d+1) (aj f) (aj g) Tryz.underlying23 hq,zJ,qE f g d (List.range 16) (fun i hi=>by simpa using hi) w]
 rfl
def uX (f:Nat->Int):List (Nat->Int)->Nat->Option Nat
 | [],_=>none
 | g :: gs,i=>if gR f g=true then some i else uX f gs (i+1)
def de (f:Nat->Int) (U:List (Nat->Int)):Bool:=U.any (gR f)
theorem nS (f:Nat->Int):∀(U:List (Nat->Int)) (i:Nat),(uX f U i).isSome=de f U
 | [],_=>rfl
 | g :: gs,i=>by
  have:=nS f gs (i+1);unfold uX de;rw[List.any_cons];by_cases h:gR f g=true
  ·rw[if_pos h,h];rfl
  ·have h2:gR f g=false:=by simpa using h
   rw[if_neg h,h2,this];rfl
theorem zq (f:Nat->Int) (w:World):∀(es:List MapEntry) (U:List (Nat->Int)) (_:es.map (·.key)=(U.map aj).map Value.agg) (_:∀e,e∈es->e.val=.bool true) (i:Nat),(Instr.findAsking 23 (.agg (aj f)) es i).run Tryz.prog w=.ok ((uX f U i).map fun j=>(j,.bool true)) w
 | [],[],_,_,_=>by simp[Instr.findAsking,uX]
 | [],g :: gs,h,_,_=>by cases h
 | e :: es,[],h,_,_=>by cases h
 | e :: es,g :: gs,h,hv,i=>by
  simp only[List.map_cons,List.cons.injEq]at h;have ih:=zq f w es gs h.2 (fun e he=>hv e (by simp[he])) (i+1);have hq:(Op.equal 23 (.agg (aj f)) e.key).run Tryz.prog w=.ok (gR f g) w:=by
   rw[h.1]
   exact Bl f g 9998 w
  unfold Instr.findAsking uX;by_cases hfg:gR f g=true
  ·rw[hfg]at hq;simp[hq,hfg,hv e (by simp)]
  ·have h2:gR f g=false:=by simpa using hfg
   rw[h2]at hq;simp[hq,h2,ih]
theorem pW (e:Bool) (f:Nat->Int) (W:World):(Instr.checkKey e 10000 23 (.agg (aj f))).run Tryz.prog W=.ok () W:=by
 cases e<;>kernel_rfl
theorem wZ (f:Nat->Int) (w:World) (es:List MapEntry) (U:List (Nat->Int)) (h:es.map (·.key)=(U.map aj).map Value.agg) (hv:∀e,e∈es->e.val=.bool true):(Instr.findKey 23 (.agg (aj f)) es).run Tryz.prog w=.ok ((uX f U 0).map fun j=>(j,.bool true)) w:=by
 unfold Instr.findKey;simp only[Sem.run_bind,run_underlying Tryz.underlying23,Result.andThen_ok]
 cases es with
 | nil=>
  cases U with
  | nil=>simp[Instr.findNow,uX]
  | cons g gs=>cases h
 | cons e es=>
  have hn:∀d,Instr.findNow (.array 16 d) (.agg (aj f)) (e :: es) 0=none:=fun d=>by
   unfold Instr.findNow
   rfl
  rw[hn]
  exact zq f w (e :: es) U h hv 0
theorem iI (W:World) (m:Nat) (U:List (Nat->Int)) (f:Nat->Int) (h:UK W m (U.map aj)):(Instr.lookup 75 (.map (some m)) (.agg (aj f)) false).run Tryz.prog W=.ok (.bool (de f U)) W:=by
 obtain⟨es,c,h1,h2,h3⟩:=h;have hf:=wZ f W es.toList U h2 h3;have hc:=fun e=>pW e f W;have hz:(zeroValue 4).run Tryz.prog W=.ok (.bool false) W:=by kernel_rfl
 have hh:=nS f U 0
 cases hk:uX f U 0 with
 | none=>
  rw[hk]at hf hh;have hh:de f U=false:=hh.symm;simp only[Option.map_none]at hf;simp[Instr.lookup,run_underlying Tryz.underlying75,MapKept.run_getObj_map h1,hc,hf,hz,hh]
 | some j=>
  rw[hk]at hf hh;have hh:de f U=true:=hh.symm;simp only[Option.map_some]at hf;simp[Instr.lookup,run_underlying Tryz.underlying75,MapKept.run_getObj_map h1,hc,hf,hh]
theorem zu (W:World) (m:Nat) (U:List (Nat->Int)) (f:Nat->Int) (h:UK W m (U.map aj)) (hno:de f U=false):∃X,(Instr.mapUpdate 75 (.map (some m)) (.agg (aj f)) (.bool true)).run Tryz.prog W=.ok () X/\UK X m ((U++[f]).map aj)/\aa (fun k=>k=m) W X:=by
 obtain⟨es,c,h1,h2,h3⟩:=h;have hf:=wZ f W es.toList U h2 h3;have hh:=nS f U 0;rw[hno]at hh;have hk:uX f U 0=none:=by
  cases hk:uX f U 0 with
  | none=>rfl
  | some j=>rw[hk]at hh;cases hh
 rw[hk]at hf;simp only[Option.map_none]at hf;have hlt:m < W.heap.size:=(Array.getElem?_eq_some_iff.1 h1).1;refine⟨W.putObj m (.map (es.push { key:=.agg (aj f),val:=.bool true,born:=c }) (c+1)),?_,⟨_,_,World.putObj_heap_same hlt,by simp[h2],fun e he=>?_⟩,aa.of_row (grownBy_putObj' W m _) rfl⟩
 ·simp[Instr.mapUpdate,run_underlying Tryz.underlying75,MapKept.run_getObj_map h1,pW false f W,hf,MapKept.run_setObj_map _ h1,Result.andThen,World.putObj]
 ·rcases Array.mem_push.1 (Array.mem_toList_iff.1 he)with h | h
  ·exact h3 e (Array.mem_toList_iff.2 h)
  ·rw[h]
theorem mV {F:Nat->Prop} {w w':World} (h:aa F w w') {g:Nat} (hg:F g) (cs:Array Value):aa F w (w'.setRow g cs):=by
 have hb:=al (Below.refl 0 w') (Nat.zero_le g) cs
 exact⟨hb.os.trans h.os,hb.tape.trans h.tape,hb.output.trans h.output,a9 h.size hb.size,fun k hk hn=>(setRow_other _ _ _ _ (fun e=>hn (by rw[e];exact hg))).trans (h.block k hk hn)⟩
def eo (o:Obj):Prop:=∃X:Array Value,o=.cells X 158 (0,0)/\X.size=226/\X[0]? = some (.bool true)
theorem nC:eo gi:=⟨_,rfl,by rw[Array.size_setIfInBounds,ge],by rw[Array.getElem?_setIfInBounds_self_of_lt (by rw[ge];decide)]⟩
theorem vP:(Tryz.prog.info? 158).map (·.size)=some 226:=by kernel_rfl
theorem uR:(AF.setIfInBounds 0 (.bool true)).all (·.oneCell')=true:=by kernel_rfl
theorem vk (cb:Nat) (o:Obj) (w:World) (h:w.heap[cb]? = some o) (ho:eo o):Calls Tryz.prog 78 #[.pointer (some ⟨cb,0,none⟩)] w fun e w'=>e=.returned (.bool false)/\w=w':=by
 obtain⟨X,rfl,hs,h0⟩:=ho;have c0:w.cell? ⟨cb,0,none⟩=some (.bool true):=(ae.cell (show ae w cb 158 X from h) 0).trans h0;clear h;go_enter Tryz.func78,Tryz.ntmps78;go_wp2;go_ret
 exact⟨rfl,rfl⟩
theorem tr (cb:Nat) (o:Obj) (w:World) (h:w.heap[cb]? = some o) (ho:eo o):Calls Tryz.prog 54 #[.pointer (some ⟨cb,0,none⟩)] w fun e w'=>e=.returned (.int .i64 0)/\w'.heap[cb]? = some gi/\aa (fun k=>k=cb) w w':=by
 have HNO:=zh (fun V hV=>vk cb o V hV ho);have HNW:=zh (fun V=>ew V);obtain⟨X,hX,hs,h0⟩:=ho;have HH:=zh h;have HB:Hid (ae w cb 158 X):=zh (h.trans (by rw[hX]));obtain⟨N,hN⟩:=af (AF.setIfInBounds 0 (.bool true))
 have HN:=zh hN;have HNS:Hid (N.size=226):=zh (by rw[hN,Array.size_setIfInBounds,ge]);have HSZ:Hid ((Tryz.prog.info? 158).map (·.size)=some N.size):=zh (by rw[HNS.out];exact vP);have HXN:Hid (X.size=N.size):=zh (by rw[HNS.out,hs]);have HO:Hid (N.all (·.oneCell')=true):=zh (by rw[hN];exact uR);have HCN:Hid (gi=.cells N 158 (0,0)):=zh (by rw[hN];rfl);have HU:=zh Tryz.underlying158;clear h hX h0 hs hN;go_enter Tryz.func54,Tryz.ntmps54;go_upto_region 3 with (go_at_call 78;refine(HNO.out _ HH.out).mono ?_;rintro e w1 ⟨rfl,rfl⟩)
 go_upto_region 4 with (first
  | (go_at_call 79;refine(HNW.out _).mono ?_;rintro e w1 ⟨rfl,hA⟩;have WA:=zh hA.symm;have HNB:Hid (ae w1 w.heap.size 158 N):=zh (by rw[<-hA,HCN.out];exact ae.new _ _ _);have HB1:Hid (ae w1 cb 158 X):=zh (by rw[<-hA];exact HB.out.alloc _);clear hA)
  | (refine wpList_load_row rfl _ _ rfl w.heap.size rfl 158 N (0,0) _ HNB.out HU.out rfl HSZ.out ?_)
  | (refine wpList_store_row rfl _ _ _ rfl cb N rfl rfl 158 X HB1.out HSZ.out HXN.out HO.out ?_))
 try simp only[Act.put]
 refine ah (fun V=>V.heap[cb]? = some gi/\aa (fun k=>k=cb) w V) ⟨by rw[HCN.out];exact setRow_heap _ _ _ N 158 (0,0) HB1.out,mV (F:=fun k=>k=cb) (by rw[WA.out];exact aa.refl.alloc _) rfl _⟩ ?_;rintro V ⟨v1,v2⟩;have V1:=zh v1;have V2:=zh v2;clear v1 v2;go_wp2;go_ret
 exact⟨rfl,V1.out,V2.out⟩
def ax.keys (C:ax) (f c:Nat->Int):ax:={ C with key:=f,code:=c }
theorem aJ {w:World} {g:Nat} {t:TypeId} {cs:Array Value} (h:ae w g t cs) (o n:Nat) (hn:o+n<=cs.size):w.there g o n:=fun j hj=>⟨by rw[h.cell,Array.getElem?_eq_getElem (by omega)];rfl,h.frozen _⟩
theorem cU (f:Nat->Int):(Tryz.prog.info? 23).map (·.size)=some (aj f).toList.length:=by kernel_rfl
theorem lG (f:Nat->Int):(aj f).all (·.oneCell')=true:=by kernel_rfl
theorem yv:(Tryz.prog.info? 166).map (·.size)=some 177:=by kernel_rfl
theorem od:(Tryz.zeroCells166).size=177:=by kernel_rfl
theorem yO:(Tryz.zeroCells166.setIfInBounds 0 (.bool true)).all (·.oneCell')=true:=by kernel_rfl
theorem vq:(Tryz.zeroCells166.setIfInBounds 0 (.bool true))[0]? = some (.bool true):=by kernel_rfl
theorem ut (eb:Nat) (o:Obj) (w:World) (h:w.heap[eb]? = some o) (ho:wo o):Calls Tryz.prog 80 #[.pointer (some ⟨eb,0,none⟩)] w fun e w'=>e=.returned (.bool false)/\w=w':=by
 obtain⟨L,rfl,hL⟩:=ho;have c0:w.cell? ⟨eb,0,none⟩=some (.bool true):=(ae.cell (show ae w eb 166 L from h) 0).trans (by rw[hL];exact vq);clear h hL;go_enter Tryz.func80,Tryz.ntmps80;go_wp2;go_ret
 exact⟨rfl,rfl⟩
theorem xd (w:World):Calls Tryz.prog 81 #[] w fun e w'=>e=.returned (.pointer (some ⟨w.heap.size,0,none⟩))/\w.alloc (.cells (Tryz.zeroCells166.setIfInBounds 0 (.bool true)) 166)=w':=by
 go_enter Tryz.func81,Tryz.ntmps81;go_wp2;go_ret
 exact⟨rfl,rfl⟩
theorem qN (cb:Nat) (o:Obj) (w:World) (h:w.heap[cb]? = some o) (ho:wo o):Calls Tryz.prog 55 #[.pointer (some ⟨cb,0,none⟩)] w fun e w'=>e=.returned (.int .i64 0)/\w'.heap[cb]? = some o/\aa (fun k=>k=cb) w w':=by
 have HNO:=zh (fun V hV=>ut cb o V hV ho);have HNW:=zh (fun V=>xd V);obtain⟨N,hX,hN⟩:=ho;have HH:=zh h;have HB:Hid (ae w cb 166 N):=zh (h.trans (by rw[hX]));have HSZ:Hid ((Tryz.prog.info? 166).map (·.size)=some N.size):=zh (by rw[hN,Array.size_setIfInBounds,od];exact yv);have HO:Hid (N.all (·.oneCell')=true):=zh (by rw[hN];exact yO);have HU:=zh Tryz.underlying166;have HX:=zh hX;rw[<-hN]at HNW;clear h hX hN;go_enter Tryz.func55,Tryz.ntmps55;go_upto_region 3 with (go_at_call 80;refine(HNO.out _ HH.out).mono ?_;rintro e w1 ⟨rfl,rfl⟩)
 go_upto_region 4 with (first
  | (go_at_call 81;refine(HNW.out _).mono ?_;rintro e w1 ⟨rfl,hA⟩;have WA:=zh hA.symm;have HNB:Hid (ae w1 w.heap.size 166 N):=zh (by rw[<-hA];exact ae.new _ _ _);have HB1:Hid (ae w1 cb 166 N):=zh (by rw[<-hA];exact HB.out.alloc _);clear hA)
  | (refine wpList_load_row rfl _ _ rfl w.heap.size rfl 166 N (0,0) _ HNB.out HU.out rfl HSZ.out ?_)
  | (refine wpList_store_row rfl _ _ _ rfl cb N rfl rfl 166 N HB1.out HSZ.out rfl HO.out ?_))
 try simp only[Act.put]
 refine ah (fun V=>V.heap[cb]? = some o/\aa (fun k=>k=cb) w V) ⟨by rw[HX.out];exact setRow_heap _ _ _ N 166 (0,0) HB1.out,mV (F:=fun k=>k=cb) (by rw[WA.out];exact aa.refl.alloc _) rfl _⟩ ?_;rintro V ⟨v1,v2⟩;have V1:=zh v1;have V2:=zh v2;clear v1 v2;go_wp2;go_ret
 exact⟨rfl,V1.out,V2.out⟩
def RS.rekeyed (s:RS) (f c:Nat->Int):RS:={ s with C:=s.C.keys f c,used:=s.used++[aj f] }
theorem te (C:ax) (f c:Nat->Int) (now d nx:Int) (sb:Nat) (run:Bool) (lim ex:Int) (ub eb:Nat) (dup:Int):bI (bI (cT C.arr now d nx sb run lim ex ub eb dup) 2 (aj f).toList) 18 (aj c).toList=cT (C.keys f c).arr now d nx sb run lim ex ub eb dup:=by
 have l1:(aj f).toList.length=16:=rfl;have l2:(aj c).toList.length=16:=rfl;have hs:=gC (now:=now) (d:=d) (nx:=nx) (sb:=sb) (run:=run) (lim:=lim) (ex:=ex) (ub:=ub) (eb:=eb) (dup:=dup) C.arr_size;apply Array.ext_getElem?;intro j;by_cases h1:18<=j/\j < 34
 ·have:=bH (aj c).toList 18 (bI (cT C.arr now d nx sb run lim ex ub eb dup) 2 (aj f).toList) (j-18) (by omega) (by rw[aM,hs];omega);rw[show 18+(j-18)=j by omega]at this;rw[this,Array.getElem?_toList,bB c _ (by omega),gk (C.keys f c).arr_size (by omega),ax.arr_at _ (by omega)];unfold ax.cell;rw[if_neg (by omega),if_neg (by omega),if_neg (by omega),if_pos (by omega)]
  rfl
 ·rw[bf _ _ _ _ (by omega)];by_cases h2:2<=j/\j < 18
  ·have:=bH (aj f).toList 2 (cT C.arr now d nx sb run lim ex ub eb dup) (j-2) (by omega) (by rw[hs];omega);rw[show 2+(j-2)=j by omega]at this;rw[this,Array.getElem?_toList,bB f _ (by omega),gk (C.keys f c).arr_size (by omega),ax.arr_at _ (by omega)];unfold ax.cell;rw[if_neg (by omega),if_neg (by omega),if_pos (by omega)]
   rfl
  ·rw[bf _ _ _ _ (by omega)];by_cases h3:j < 39
   ·rw[gk C.arr_size h3,gk (C.keys f c).arr_size h3,C.arr_at h3,ax.arr_at _ h3];unfold ax.cell ax.keys;by_cases h4:j < 18
    ·have:j=0\/j=1:=by omega
     rcases this with rfl | rfl<;>rfl
    ·have:j=34\/j=35\/j=36\/j=37\/j=38:=by omega
     rcases this with rfl | rfl | rfl | rfl | rfl<;>rfl
   ·by_cases h4:j < 51
    ·have:=ja (now:=now) (d:=d) (nx:=nx) (sb:=sb) (run:=run) (lim:=lim) (ex:=ex) (ub:=ub) (eb:=eb) (dup:=dup) C.arr_size (j-39);have h5:=ja (now:=now) (d:=d) (nx:=nx) (sb:=sb) (run:=run) (lim:=lim) (ex:=ex) (ub:=ub) (eb:=eb) (dup:=dup) (C.keys f c).arr_size (j-39);rw[show 39+(j-39)=j by omega]at this h5;rw[this,h5]
    ·rw[Array.getElem?_eq_none (by omega),Array.getElem?_eq_none (by rw[gC (C.keys f c).arr_size];omega)]
section
variable {w w1:World} {g:Nat} {s:RS} {W R:Nat->Prop} {sb:Nat} {l:List SE} {ub eb:Nat}
theorem aN.setUsed (h:aN w g s W R sb l ub eb) (hk:aa (fun k=>k=ub) w w1) {L:List (Array Value)} (hu:UK w1 ub L):aN w1 g { s with used:=L } W R sb l ub eb:=
 ⟨hk.blk h.blk (fun e=>h.gu e),h.lv,h.st.keepF hk (fun e=>h.su e),h.ris,h.rng,hu,(hk.block _ (h.win _ h.wx) (fun e=>h.xu e)).trans h.x,fun e he=>(h.pk e he).keep hk (fun k e2 hr=>h.dis k (e2 ▸ h.wu) hr),⟨h.ok.now,h.ok.deliver,h.ok.next,h.ok.limit,h.ok.expiry,h.ok.dup⟩,h.wg,h.ws,h.wu,h.wx,h.xg,h.xs,h.xu,h.su,h.dis,fun k hw=>bp (h.win k hw) hk.size,fun k hw=>bp (h.rin k hw) hk.size,h.xo⟩
theorem aN.setExp (h:aN w g s W R sb l ub eb) (hk:aa (fun k=>k=eb) w w1) (ho:w1.heap[eb]? = some s.exp):aN w1 g s W R sb l ub eb:=
 ⟨hk.blk h.blk (fun e=>h.xg e.symm),h.lv,h.st.keepF hk (fun e=>h.xs e.symm),h.ris,h.rng,h.u.keep (hk.block _ h.u.lt (fun e=>h.xu e.symm)),ho,fun e he=>(h.pk e he).keep hk (fun k e2 hr=>h.dis k (e2 ▸ h.wx) hr),h.ok,h.wg,h.ws,h.wu,h.wx,h.xg,h.xs,h.xu,h.su,h.dis,fun k hw=>bp (h.win k hw) hk.size,fun k hw=>bp (h.rin k hw) hk.size,h.xo⟩
theorem aN.setCfg (h:aN w g s W R sb l ub eb) (hk:aa (fun k=>k=g) w w1) {f c:Nat->Int} (hb:ae w1 g 90 (cT (s.C.keys f c).arr s.now s.deliver s.next sb s.run s.limit s.expiry ub eb s.dup)):aN w1 g { s with C:=s.C.keys f c } W R sb l ub eb:=
 h.one (s':={ s with C:=s.C.keys f c }) hk hb rfl rfl rfl h.rng ⟨h.ok.now,h.ok.deliver,h.ok.next,h.ok.limit,h.ok.expiry,h.ok.dup⟩
end
theorem qQ (g:Nat) (s:RS) (W R:Nat->Prop) (sb:Nat) (l:List SE) (ub eb:Nat) (w:World) (h:aN w g s W R sb l ub eb) (U:List (Nat->Int)) (hU:s.used=U.map aj) (hcm:s.C.cm=false) (f c:Nat->Int) (hno:de f U=false) :
  Calls Tryz.prog 34 #[.pointer (some ⟨g,0,none⟩),.agg (aj f),.agg (aj c)] w fun e w'=>e=.returned (.int .i64 0)/\aN w' g (s.rekeyed f c) W R sb l ub eb/\aa W w w':=by
 have HNO:=zh (fun(V:World) (hb:Below w.heap.size w V)=>d9 g V (h.below hb).made);have HT:=zh h;have hT:=h;have HLK:=zh (fun(V:World) (hb:Below w.heap.size w V)=>iI V ub U f (by rw[<-hU];exact(hT.below hb).u));have HSK:=zh (cU f);have HSC:=zh (cU c);have HOK:=zh (lG f);have HOC:=zh (lG c);have HUK:=zh Tryz.underlying23;have HPUT:=zh (fun(V:World) (hb:Below w.heap.size w V)=>zu V ub U f (by rw[<-hU];exact(hT.below hb).u) hno);have HU2:=zh (show(U++[f]).map aj=s.used++[aj f] by rw[hU,List.map_append];rfl);have HXO:=zh (HT.out.xo hcm);clear hcm;obtain⟨KF,hKF⟩:=af (aj f)
 obtain⟨KC,hKC⟩:=af (aj c)
 have HKF:=zh hKF;have HKC:=zh hKC;rw[<-hKF]at HLK HSK HOK ⊢;rw[<-hKC]at HSC HOC ⊢;rw[hno]at HLK;rw[<-hKF]at HPUT HU2;clear hT h hKF hKC hU hno;go_enter Tryz.func34,Tryz.ntmps34;go_upto_region 1 with (fail)
 obtain⟨kb,hkb⟩:=af w.heap.size
 have HKB:=zh hkb;refine ah (fun V=>ae V kb 23 KF/\ae V (kb+1) 23 KC/\Below w.heap.size w V) ⟨by rw[hkb];exact(aI _ _ _ _ rfl).alloc _,by rw[hkb];exact aI _ _ _ _ (by simp),((Below.refl _ w).alloc ay _).alloc (by simp) _⟩ ?_;rintro W1 ⟨b1,b2,b3⟩;have B1:=zh b1;have B2:=zh b2;have B3:=zh b3;rw[<-hkb];clear b1 b2 b3 hkb;go_upto_region 3 with (go_at_call 29;refine(HNO.out _ B3.out).mono ?_;rintro e w3 ⟨rfl,rfl⟩)
 have HKR:=zh (show ∀W',Below W1.heap.size W1 W'->W'.rangeAt kb 0 KF.toList from fun W' hW=>(B1.out.below hW B1.out.lt).range _ (by simp));have HC47:=zh (show ∀W',Below W1.heap.size W1 W'->W'.cell? ⟨g,47,none⟩=some (.map (some ub))from fun W' hW=>(HT.out.below (B3.out.trans (hW.mono B3.out.size))).cu);have HL2:=zh (show ∀W',Below W1.heap.size W1 W'->(Instr.lookup 75 (.map (some ub)) (.agg KF) false).run Tryz.prog W'=.ok (.bool false) W' from fun W' hW=>HLK.out W' (B3.out.trans (hW.mono B3.out.size)));refine wp_region_held_drew (S:=fun w'=>Below W1.heap.size W1 w') (by kernel_rfl) ((Below.refl _ W1).drew) (fun hHeld=>?_);obtain⟨w0,hw0⟩:=af W1.drew
 rw[<-hw0];rw[<-hw0]at hHeld;clear hw0;refine ba (i:=0) (x:=some 11) (v:=.pointer (some ⟨g,0,none⟩)) rfl ?_;refine az (i:=1) (x:=some 12) (v:=.pointer (some ⟨g,0,none⟩)) rfl ?_;refine az (i:=2) (x:=some 13) (v:=.pointer (some ⟨g,47,none⟩)) rfl ?_;refine bE (i:=3) (x:=some 14) (v:=.map (some ub)) rfl (.inl ⟨by rfl,fun W hW=>(by have:=HC47.out W hW;go_simp)⟩) ?_;refine' bE (i:=4) (x:=some 15) (v:=_) rfl (yieldsIf_load_mid (by rfl) _ _ rfl kb 0 rfl KF.toList _ (fun w h=>HKR.out w h) HUK.out rfl HSK.out) ?_;refine bE (i:=5) (x:=some 16) (v:=.bool false) rfl (.inl ⟨by rfl,fun W hW=>(by have:=HL2.out W hW;go_simp)⟩) ?_;refine ba (i:=6) (x:=some 10) (v:=.bool false) rfl ?_;refine wpAnyH_done (by kernel_rfl) ?_ _;have H2:=zh hHeld;clear hHeld;go_upto_region 5 with (fail)
 have H3:=zh (B3.out.trans (H2.out.mono B3.out.size));have T3:=zh (HT.out.below H3.out);have D1:=zh (B1.out.below H2.out B1.out.lt);have D2:=zh (B2.out.below H2.out B2.out.lt);obtain⟨W5,hW5⟩:=af w0
 rw[<-hW5]at H3 T3 D1 D2 ⊢;clear hW5;have HKR2:=zh (show ∀W',Below W5.heap.size W5 W'->W'.rangeAt kb 0 KF.toList from fun W' hW=>(D1.out.below hW D1.out.lt).range _ (by simp));have HD47:=zh (show ∀W',Below W5.heap.size W5 W'->W'.cell? ⟨g,47,none⟩=some (.map (some ub))from fun W' hW=>(T3.out.below hW).cu);refine wp_region_held_drew (S:=fun w'=>aa (fun k=>k=ub) W5 w') (by kernel_rfl) (aa.refl.drew) (fun hHeld=>?_);obtain⟨w5,hw5⟩:=af W5.drew
 have hb5:Below W5.heap.size W5 w5:=by rw[hw5];exact(Below.refl _ _).drew
 have HE:=zh (show ∀W',aa (fun k=>k=ub) W5 W'->W'.cell? ⟨g,47,none⟩=some (.map (some ub))from fun W' hW=>(hW.cell (p:=⟨g,47,none⟩) T3.out.blk.lt T3.out.gu).trans T3.out.cu);have HER:=zh (show ∀W',aa (fun k=>k=ub) W5 W'->W'.rangeAt kb 0 KF.toList from fun W' hW=>(hW.blk D1.out (fun e=>by have:=HT.out.u.lt;have:=HKB.out;omega)).range _ (by simp));rw[<-hw5];rw[<-hw5]at hHeld;obtain⟨X,hput,hUK,hKX⟩:=HPUT.out w5 (H3.out.trans (hb5.mono H3.out.size));have hTX:=(T3.out.below hb5).setUsed hKX hUK;rw[HU2.out]at hTX;clear hw5;refine ba (i:=0) (x:=some 17) (v:=.pointer (some ⟨g,0,none⟩)) rfl ?_;refine az (i:=1) (x:=some 18) (v:=.pointer (some ⟨g,0,none⟩)) rfl ?_;refine az (i:=2) (x:=some 19) (v:=.pointer (some ⟨g,47,none⟩)) rfl ?_;refine bE (i:=3) (x:=some 20) (v:=.map (some ub)) rfl (.inl ⟨by rfl,fun W hW=>(by have:=HE.out W hW;go_simp)⟩) ?_;refine' bE (i:=4) (x:=some 21) (v:=_) rfl (yieldsIf_load_mid (by rfl) _ _ rfl kb 0 rfl KF.toList _ (fun w h=>HER.out w h) HUK.out rfl HSK.out) ?_;refine aL (i:=5) (x:=none) rfl fun K hK=>?_;go_simp;refine hK.out _ _ (hHeld.trans hKX (fun k _ hk=>hk)) (fun hHeld=>?_);clear hK K hput
 try simp only[Act.put]
 refine wpAnyH_done (by kernel_rfl) ?_ _;have HTX:=zh hTX;have H5:=zh (hHeld);have XD1:=zh (hHeld.blk D1.out (fun e=>by have:=HT.out.u.lt;have:=HKB.out;omega));have XD2:=zh (hHeld.blk D2.out (fun e=>by have:=HT.out.u.lt;have:=HKB.out;omega));clear hTX hKX hUK hHeld;go_upto_region 6 with (fail)
 have HGB:=zh (show g < kb from by have:=HT.out.blk.lt;have:=HKB.out;omega);have HF1:=zh (show ∀W',aa (fun k=>k=g) X W'->W'.rangeAt kb 0 KF.toList from fun W' hW=>(hW.blk XD1.out (fun e=>by have:=HGB.out;omega)).range _ (by simp));have HF2:=zh (show ∀W',aa (fun k=>k=g) X W'->W'.rangeAt (kb+1) 0 KC.toList from fun W' hW=>(hW.blk XD2.out (fun e=>by have:=HGB.out;omega)).range _ (by simp));have HSKF:Hid ((Tryz.prog.info? 23).map (·.size)=some KF.size):=zh (by rw[HKF.out];kernel_rfl);have HSKC:Hid ((Tryz.prog.info? 23).map (·.size)=some KC.size):=zh (by rw[HKC.out];kernel_rfl);refine wp_region_held_drew (S:=fun w'=>aa (fun k=>k=g) X w') (by kernel_rfl) (aa.refl.drew) (fun hHeld=>?_);obtain⟨w6,hw6⟩:=af X.drew
 have hb6:Below X.heap.size X w6:=by rw[hw6];exact(Below.refl _ _).drew
 rw[<-hw6];rw[<-hw6]at hHeld;have hT6:=HTX.out.below hb6;clear hw6 hb6;refine ba (i:=0) (x:=some 22) (v:=.pointer (some ⟨g,0,none⟩)) rfl ?_;refine ba (i:=1) (x:=some 23) (v:=.pointer (some ⟨g,0,none⟩)) rfl ?_;refine' bE (i:=2) (x:=some 24) (v:=_) rfl (yieldsIf_load_mid (by rfl) _ _ rfl kb 0 rfl KF.toList _ (fun w h=>HF1.out w h) HUK.out rfl HSK.out) ?_;refine' bE (i:=3) (x:=some 25) (v:=_) rfl (yieldsIf_load_mid (by rfl) _ _ rfl (kb+1) 0 rfl KC.toList _ (fun w h=>HF2.out w h) HUK.out rfl HSC.out) ?_;refine az (i:=4) (x:=some 26) (v:=.pointer (some ⟨g,0,none⟩)) rfl ?_;refine az (i:=5) (x:=some 27) (v:=.pointer (some ⟨g,0,none⟩)) rfl ?_;refine az (i:=6) (x:=some 28) (v:=.pointer (some ⟨g,2,none⟩)) rfl ?_;refine aL (i:=7) (x:=none) rfl fun K hK=>?_;refine wp_store_mid _ _ _ rfl g 2 KF rfl rfl (aJ hT6.blk 2 KF.size (by rw[HKF.out,gC s.C.arr_size];show 2+16<=51;decide)) HSKF.out HOK.out ?_;have hk1:aa (fun k=>k=g) X (w6.setCells g 2 KF.toList):=hHeld.trans (bP (F:=fun k=>k=g) rfl _ _ _) (fun _ _ h=>h);have hB1:=aP KF.toList 2 w6 _ hT6.blk;obtain⟨v1,hv1⟩:=af (w6.setCells g 2 KF.toList)
 rw[<-hv1]at hk1 hB1 ⊢;refine hK.out _ _ hk1 (fun hHeld=>?_);clear hK K hk1 hv1 hT6
 try simp only[Act.put]
 refine az (i:=8) (x:=some 29) (v:=.pointer (some ⟨g,0,none⟩)) rfl ?_;refine az (i:=9) (x:=some 30) (v:=.pointer (some ⟨g,0,none⟩)) rfl ?_;refine az (i:=10) (x:=some 31) (v:=.pointer (some ⟨g,18,none⟩)) rfl ?_;refine aL (i:=11) (x:=none) rfl fun K hK=>?_;refine wp_store_mid _ _ _ rfl g 18 KC rfl rfl (aJ hB1 18 KC.size (by rw[HKC.out,aM,gC s.C.arr_size];show 18+16<=51;decide)) HSKC.out HOC.out ?_;have hk2:aa (fun k=>k=g) X (v1.setCells g 18 KC.toList):=hHeld.trans (bP (F:=fun k=>k=g) rfl _ _ _) (fun _ _ h=>h);have hB2:=aP KC.toList 18 v1 _ hB1;obtain⟨v2,hv2⟩:=af (v1.setCells g 18 KC.toList)
 rw[<-hv2]at hk2 hB2 ⊢;refine hK.out _ _ hk2 (fun hHeld=>?_);clear hK K hk2 hv2
 try simp only[Act.put]
 refine wpAnyH_done (by kernel_rfl) ?_ _;rw[HKF.out,HKC.out,te]at hB2;have T6:=zh (HTX.out.setCfg hHeld hB2);have H6:=zh hHeld;clear hHeld hB1 hB2;have cx:=T6.out.cx;go_wp2_with (go_at_call 55;refine(qN eb s.exp _ T6.out.x HXO.out).mono ?_;rintro e v3 ⟨rfl,hc,hk⟩;have T7:=zh (T6.out.setExp hk hc);have H7:=zh hk;clear hc hk);go_ret;refine⟨rfl,?_,(((aa.of_below (F:=W) H3.out).trans (H5.out.mono (G:=W) (fun k e=>by rw[e];exact HT.out.wu)) (fun _ _ h=>h)).trans (H6.out.mono (G:=W) (fun k e=>by rw[e];exact HT.out.wg)) (fun _ _ h=>h)).trans (H7.out.mono (G:=W) (fun k e=>by rw[e];exact HT.out.wx)) (fun _ _ h=>h)⟩;have h7:=T7.out;rw[HKF.out]at h7
 exact h7
end Go.Proofs.YtbfpdnnphdagjaaGreat
namespace Go.Proofs.YtbfpdnnphdagjaaGreat
open Go.RowKit Go.ChangeShapes Go.WideShapes Go.ChangeAt
attribute [local go_sem ↓] Go.wp_at_zero Go.wp_at_succ
section
variable {H:Type} {enc:TypeId×Value->H} {w:World} {base:Nat} {spare:Nat->Bool} {held:Bool}
theorem iy {fuel:Nat} {v:Value} {x:DataW H×List MemPlace} (h:DataW.trod enc Tryz.prog w base spare held fuel 41 [v] = some x) (hsp:∀b,spare b=true) :
  ∃a len cap zs,v=.slice a len cap/\vu .u8 w a len cap zs:=by
 rcases open_ints Tryz.underlying41 Tryz.underlying5 (by kernel_rfl) h with ⟨hcs,_⟩ | ⟨x,l,c,zs,hcs,_,hl,hm,hz,_,hcell,hwz⟩
 ·simp at hcs;subst hcs
  exact⟨none,0,0,[],rfl,.inl ⟨rfl,rfl,rfl,rfl⟩⟩
 ·simp at hcs;subst hcs;rw[if_pos (hsp _)]at hz
  exact⟨some x,l,c,zs,rfl,.inr ⟨x,rfl,hl,hm,hz,hcell,hwz⟩⟩
end
end Go.Proofs.YtbfpdnnphdagjaaGreat
namespace Go.Proofs.YtbfpdnnphdagjaaGreat
open Go.RowKit
attribute [local go_sem ↓] Go.wp_at_zero Go.wp_at_succ
structure R6 where
 out:List SV
 err:Int
 s:RS
 U:List (Nat->Int)
theorem kG (s:RS):s.timer.used=s.used:=by
 unfold RS.timer RS.start RS.stop
 (repeat' split)<;>rfl
theorem oS (s:RS):s.expire.2.used=s.used:=by
 unfold RS.expire
 split
 ·rfl
 ·exact kG _
theorem t9 (s:RS) (n:Nat) (z:Nat->Nat):(s.take n z).2.2.used=s.used/\(s.take n z).2.2.dup<=s.dup+1/\(s.take n z).2.2.L.length<=s.L.length+1:=by
 have hi:∀(x:SV) (l:List SV),(dq x l).length=l.length+1:=fun x l=>by
  induction l with
  | nil=>rfl
  | cons y r ih=>
   unfold dq
   split
   ·simp
   ·simp[ih]
 have hs:s.used=s.used/\s.dup<=s.dup+1/\s.L.length<=s.L.length+1:=⟨rfl,by omega,by omega⟩
 unfold RS.take
 split
 ·exact hs
 split
 ·exact hs
 split
 ·exact hs
 split
 ·exact hs
 split
 ·exact hs
 split
 ·exact⟨rfl,Int.le_refl _,Nat.le_succ _⟩
 split
 ·exact hs
 split
 ·exact hs
 ·exact⟨rfl,by show s.dup<=s.dup+1;omega,by show(dq _ s.L).length<=_;rw[hi];exact Nat.le_refl _⟩
theorem tc (s:RS) (t:Int) (n:Nat) (z:Nat->Nat):(s.receive t n z).2.2.C=s.C/\(s.receive t n z).2.2.used=s.used/\(s.receive t n z).2.2.dup<=s.dup+1/\(s.receive t n z).2.2.L.length<=s.L.length+1:=by
 unfold RS.receive
 split
 ·exact⟨rfl,rfl,by show s.dup<=s.dup+1;omega,by show s.L.length<=s.L.length+1;omega⟩
 ·obtain⟨a1,a2,a3⟩:=fA (s.at_ t);have a4:=oS (s.at_ t);have b1:=wN (s.at_ t).expire.2 n z;obtain⟨b2,b3,b4⟩:=t9 (s.at_ t).expire.2 n z;have e1:(s.at_ t).C=s.C/\(s.at_ t).used=s.used/\(s.at_ t).dup=s.dup/\(s.at_ t).L=s.L:=⟨rfl,rfl,rfl,rfl⟩
  rw[e1.1]at a1;rw[e1.2.2.1]at a2;rw[e1.2.2.2]at a3;rw[e1.2.1]at a4;simp only
  split
  ·obtain⟨c1,c2,c3,_⟩:=js ((s.at_ t).expire.2.take n z).2.2.deliver_.2;have c4:=kG ((s.at_ t).expire.2.take n z).2.2.deliver_.2;have c5:=mz ((s.at_ t).expire.2.take n z).2.2.L ((s.at_ t).expire.2.take n z).2.2.deliver;refine⟨c1.trans (b1.trans a1),c4.trans (b2.trans a4),?_,?_⟩
   ·show((s.at_ t).expire.2.take n z).2.2.deliver_.2.timer.dup<=_;rw[c2];show((s.at_ t).expire.2.take n z).2.2.dup<=_;rw[<-a2];exact b3
   ·show((s.at_ t).expire.2.take n z).2.2.deliver_.2.timer.L.length<=_;rw[c3];show(aU ((s.at_ t).expire.2.take n z).2.2.L ((s.at_ t).expire.2.take n z).2.2.deliver).2.1.length<=_;omega
  ·exact⟨b1.trans a1,b2.trans a4,by rw[<-a2];exact b3,a9 b4 (by omega)⟩
end Go.Proofs.YtbfpdnnphdagjaaGreat

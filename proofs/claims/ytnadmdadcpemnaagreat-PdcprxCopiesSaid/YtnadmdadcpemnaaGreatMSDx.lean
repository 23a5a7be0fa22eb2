import Derived.Test.YtnadmdadcpemnaaGreatMZOx
import Derived.Test.YtnadmdadcpemnaaGreatMDQx
namespace Go.Proofs.YtnadmdadcpemnaaGreat
open Go.RowKit
set_option linter.unusedVariables false
attribute [local go_sem ↓] Go.wp_at_zero Go.wp_at_succ
private theorem zh {p:Prop} (h:p):Go.RowKit.Hid p:=h
private theorem tkH {P:Program} {ops:Array Oper} {Q:Exit→Act→World→Prop} {md:Region.Mode} {S:World→Prop} {i:Nat} {oi:Oper} {v:Value} {fuel:Nat} {listed l':Array Bool} {a a':Act} {w:World} (hi:ops[i]? = some oi) (hy:YieldsIf P ops S oi v a) (hS:S w)
  (h:wpAnyH P md ops Q S fuel l' a' w) (hl:listed.setIfInBounds i true=l':=by(try simp only[List.setIfInBounds_toArray,List.set_cons_zero,List.set_cons_succ]);rfl) (ha:a.put oi.dst v=a':=by(try simp only[Act.put,List.setIfInBounds_toArray,List.set_cons_zero,List.set_cons_succ]);rfl) (hs:Region.noSelect ops=true:=by kernel_rfl) (hf:Region.free md ops listed i=true:=by kernel_rfl) (hr:(Region.ready md ops listed).contains i=true:=by kernel_rfl)
  (hQ:∀c a w,Q (.panic c) (a.put oi.dst v) w→Q (.panic c) a w:=by exact fun _ _ _ h=>h):wpAnyH P md ops Q S (fuel+1) listed a w:=by subst hl;subst ha;exact wpAnyH_take hi hs hf hr hQ hy hS h
def keyEq (f g:Nat→Int):Bool:=(List.range 16).all fun j=>decide (f j=g j)
theorem k_items2 (f g:Nat→Int) (d:Nat):∀(is:List Nat) (_:∀i,i∈is→i < 16) (w:World),(Op.eqItems (d+1) 5 1 (kArr f) (kArr g) is).run Tryz.prog w=.ok (is.all fun j=>decide (f j=g j)) w
 | [],_,w=>by simp[Op.eqItems]
 | i :: is,h,w=>by
  simp only[Op.eqItems,Sem.run_bind,k_part f i (h i (by simp)) w,k_part g i (h i (by simp)) w,Result.andThen_ok]
  have hr:=k_items2 f g d is (fun j hj=>h j (by simp[hj])) w
  by_cases e:f i=g i
  ·simp[go_sem,hr,e]
  ·have e2:(f i == g i)=false:=by simpa using e
   simp[go_sem,e,e2]
theorem k_eq (f g:Nat→Int) (d:Nat) (w:World):(Op.equalIn (d+2) 23 (.agg (kArr f)) (.agg (kArr g))).run Tryz.prog w=.ok (keyEq f g) w:=by
 obtain⟨q,hq,_⟩:=info_parts Tryz.infoByte
 rw[run_equalIn_array w (d+1) (kArr f) (kArr g) Tryz.underlying23 hq,cells5,k_items2 f g d (List.range 16) (fun i hi=>by simpa using hi) w]
 rfl
def kAt (f:Nat→Int):List (Nat→Int)→Nat→Option Nat
 | [],_=>none
 | g :: gs,i=>if keyEq f g=true then some i else kAt f gs (i+1)
def hasKey (f:Nat→Int) (U:List (Nat→Int)):Bool:=U.any (keyEq f)
theorem kAt_has (f:Nat→Int):∀(U:List (Nat→Int)) (i:Nat),(kAt f U i).isSome=hasKey f U
 | [],_=>rfl
 | g :: gs,i=>by
  have:=kAt_has f gs (i+1)
  unfold kAt hasKey
  rw[List.any_cons]
  by_cases h:keyEq f g=true
  ·rw[if_pos h,h];rfl
  ·have h2:keyEq f g=false:=by simpa using h
   rw[if_neg h,h2,this];rfl
theorem k_ask (f:Nat→Int) (w:World):∀(es:List MapEntry) (U:List (Nat→Int)) (_:es.map (·.key)=(U.map kArr).map Value.agg) (_:∀e,e∈es→e.val=.bool true) (i:Nat),(Instr.findAsking 23 (.agg (kArr f)) es i).run Tryz.prog w=.ok ((kAt f U i).map fun j=>(j,.bool true)) w
 | [],[],_,_,_=>by simp[Instr.findAsking,kAt]
 | [],g :: gs,h,_,_=>by cases h
 | e :: es,[],h,_,_=>by cases h
 | e :: es,g :: gs,h,hv,i=>by
  simp only[List.map_cons,List.cons.injEq]at h
  have ih:=k_ask f w es gs h.2 (fun e he=>hv e (by simp[he])) (i+1)
  have hq:(Op.equal 23 (.agg (kArr f)) e.key).run Tryz.prog w=.ok (keyEq f g) w:=by
   rw[h.1]
   exact k_eq f g 9998 w
  unfold Instr.findAsking kAt
  by_cases hfg:keyEq f g=true
  ·rw[hfg]at hq
   simp[hq,hfg,hv e (by simp)]
  ·have h2:keyEq f g=false:=by simpa using hfg
   rw[h2]at hq
   simp[hq,h2,ih]
theorem k_checkE (e:Bool) (f:Nat→Int) (W:World):(Instr.checkKey e 10000 23 (.agg (kArr f))).run Tryz.prog W=.ok () W:=by
 cases e<;>kernel_rfl
theorem k_find (f:Nat→Int) (w:World) (es:List MapEntry) (U:List (Nat→Int)) (h:es.map (·.key)=(U.map kArr).map Value.agg) (hv:∀e,e∈es→e.val=.bool true):(Instr.findKey 23 (.agg (kArr f)) es).run Tryz.prog w=.ok ((kAt f U 0).map fun j=>(j,.bool true)) w:=by
 unfold Instr.findKey
 simp only[Sem.run_bind,run_underlying Tryz.underlying23,Result.andThen_ok]
 cases es with
 | nil=>
  cases U with
  | nil=>simp[Instr.findNow,kAt]
  | cons g gs=>cases h
 | cons e es=>
  have hn:∀d,Instr.findNow (.array 16 d) (.agg (kArr f)) (e :: es) 0=none:=fun d=>by
   unfold Instr.findNow
   rfl
  rw[hn]
  exact k_ask f w (e :: es) U h hv 0
theorem k_lookup (W:World) (m:Nat) (U:List (Nat→Int)) (f:Nat→Int) (h:UK W m (U.map kArr)):(Instr.lookup 79 (.map (some m)) (.agg (kArr f)) false).run Tryz.prog W=.ok (.bool (hasKey f U)) W:=by
 obtain⟨es,c,h1,h2,h3⟩:=h
 have hf:=k_find f W es.toList U h2 h3
 have hc:=fun e=>k_checkE e f W
 have hz:(zeroValue 4).run Tryz.prog W=.ok (.bool false) W:=by kernel_rfl
 have hh:=kAt_has f U 0
 cases hk:kAt f U 0 with
 | none=>
  rw[hk]at hf hh
  have hh:hasKey f U=false:=hh.symm
  simp only[Option.map_none]at hf
  simp[Instr.lookup,run_underlying Tryz.underlying79,MapKept.run_getObj_map h1,hc,hf,hz,hh]
 | some j=>
  rw[hk]at hf hh
  have hh:hasKey f U=true:=hh.symm
  simp only[Option.map_some]at hf
  simp[Instr.lookup,run_underlying Tryz.underlying79,MapKept.run_getObj_map h1,hc,hf,hh]
theorem k_put (W:World) (m:Nat) (U:List (Nat→Int)) (f:Nat→Int) (h:UK W m (U.map kArr)) (hno:hasKey f U=false):∃X,(Instr.mapUpdate 79 (.map (some m)) (.agg (kArr f)) (.bool true)).run Tryz.prog W=.ok () X∧UK X m ((U++[f]).map kArr)∧KeepF (fun k=>k=m) W X:=by
 obtain⟨es,c,h1,h2,h3⟩:=h
 have hf:=k_find f W es.toList U h2 h3
 have hh:=kAt_has f U 0
 rw[hno]at hh
 have hk:kAt f U 0=none:=by
  cases hk:kAt f U 0 with
  | none=>rfl
  | some j=>rw[hk]at hh;cases hh
 rw[hk]at hf
 simp only[Option.map_none]at hf
 have hlt:m < W.heap.size:=(Array.getElem?_eq_some_iff.1 h1).1
 refine⟨W.putObj m (.map (es.push { key:=.agg (kArr f),val:=.bool true,born:=c }) (c+1)),?_,⟨_,_,World.putObj_heap_same hlt,by simp[h2],fun e he=>?_⟩,KeepF.of_row (grownBy_putObj' W m _) rfl⟩
 ·simp[Instr.mapUpdate,run_underlying Tryz.underlying79,MapKept.run_getObj_map h1,k_checkE false f W,hf,MapKept.run_setObj_map _ h1,Result.andThen,World.putObj]
 ·rcases Array.mem_push.1 (Array.mem_toList_iff.1 he)with h | h
  ·exact h3 e (Array.mem_toList_iff.2 h)
  ·rw[h]
theorem keepF_row {F:Nat→Prop} {w w':World} (h:KeepF F w w') {g:Nat} (hg:F g) (cs:Array Value):KeepF F w (w'.setRow g cs):=by
 have hb:=belowRow (Below.refl 0 w') (Nat.zero_le g) cs
 exact⟨hb.os.trans h.os,hb.tape.trans h.tape,hb.output.trans h.output,Nat.le_trans h.size hb.size,fun k hk hn=>(setRow_other _ _ _ _ (fun e=>hn (by rw[e];exact hg))).trans (h.block k hk hn)⟩
def Cfg.keys (C:Cfg) (f c:Nat→Int):Cfg:={ C with key:=f,code:=c }
theorem blk_there {w:World} {g:Nat} {t:TypeId} {cs:Array Value} (h:Blk w g t cs) (o n:Nat) (hn:o+n≤cs.size):w.there g o n:=fun j hj=>⟨by rw[h.cell,Array.getElem?_eq_getElem (by omega)];rfl,h.frozen _⟩
theorem k_size (f:Nat→Int):(Tryz.prog.info? 23).map (·.size)=some (kArr f).toList.length:=by kernel_rfl
theorem k_one (f:Nat→Int):(kArr f).all (·.oneCell')=true:=by kernel_rfl
end Go.Proofs.YtnadmdadcpemnaaGreat
namespace Go.Proofs.YtnadmdadcpemnaaGreat
open Go.RowKit
set_option linter.unusedVariables false
set_option linter.unusedSimpArgs false
attribute [local go_sem ↓] Go.wp_at_zero Go.wp_at_succ
theorem sizeExp:(Tryz.prog.info? 127).map (·.size)=some 177:=by kernel_rfl
theorem zeroExp_size:(Tryz.zeroCells127).size=177:=by kernel_rfl
theorem exL_one:(Tryz.zeroCells127.setIfInBounds 0 (.bool true)).all (·.oneCell')=true:=by kernel_rfl
theorem exL_zero:(Tryz.zeroCells127.setIfInBounds 0 (.bool true))[0]? = some (.bool true):=by kernel_rfl
theorem exnone_ok (eb:Nat) (o:Obj) (w:World) (h:w.heap[eb]? = some o) (ho:IsEx o):Calls Tryz.prog 75 #[.pointer (some ⟨eb,0,none⟩)] w fun e w'=>e=.returned (.bool false)∧w=w':=by
 obtain⟨L,rfl,hL⟩:=ho
 have c0:w.cell? ⟨eb,0,none⟩=some (.bool true):=(Blk.cell (show Blk w eb 127 L from h) 0).trans (by rw[hL];exact exL_zero)
 clear h hL
 go_enter Tryz.func75,Tryz.ntmps75
 go_wp2
 go_ret
 exact⟨rfl,rfl⟩
set_option maxRecDepth 100000 in
theorem exnew_ok (w:World):Calls Tryz.prog 40 #[] w fun e w'=>e=.returned (.pointer (some ⟨w.heap.size,0,none⟩))∧w.alloc (.cells (Tryz.zeroCells127.setIfInBounds 0 (.bool true)) 127)=w':=by
 go_enter Tryz.func40,Tryz.ntmps40
 go_wp2
 go_ret
 exact⟨rfl,rfl⟩
set_option maxRecDepth 100000 in
set_option maxHeartbeats 1600000 in
theorem exreset_ok (cb:Nat) (o:Obj) (w:World) (h:w.heap[cb]? = some o) (ho:IsEx o):Calls Tryz.prog 73 #[.pointer (some ⟨cb,0,none⟩)] w fun e w'=>e=.returned (.int .i64 0)∧w'.heap[cb]? = some o∧KeepF (fun k=>k=cb) w w':=by
 have HNO:=zh (fun V hV=>exnone_ok cb o V hV ho)
 have HNW:=zh (fun V=>exnew_ok V)
 obtain⟨N,hX,hN⟩:=ho
 have HH:=zh h
 have HB:Hid (Blk w cb 127 N):=zh (h.trans (by rw[hX]))
 have HSZ:Hid ((Tryz.prog.info? 127).map (·.size)=some N.size):=zh (by rw[hN,Array.size_setIfInBounds,zeroExp_size];exact sizeExp)
 have HO:Hid (N.all (·.oneCell')=true):=zh (by rw[hN];exact exL_one)
 have HU:=zh Tryz.underlying127
 have HX:=zh hX
 rw[←hN]at HNW
 clear h hX hN
 go_enter Tryz.func73,Tryz.ntmps73
 go_upto_region 3 with (go_at_call 75;refine(HNO.out _ HH.out).mono ?_;rintro e w1 ⟨rfl,rfl⟩)
 go_upto_region 4 with (first
  | (go_at_call 40;refine(HNW.out _).mono ?_;rintro e w1 ⟨rfl,hA⟩;have WA:=zh hA.symm;have HNB:Hid (Blk w1 w.heap.size 127 N):=zh (by rw[←hA];exact Blk.new _ _ _);have HB1:Hid (Blk w1 cb 127 N):=zh (by rw[←hA];exact HB.out.alloc _);clear hA)
  | (refine wpList_load_row rfl _ _ rfl w.heap.size rfl 127 N (0,0) _ HNB.out HU.out rfl HSZ.out ?_)
  | (refine wpList_store_row rfl _ _ _ rfl cb N rfl rfl 127 N HB1.out HSZ.out rfl HO.out ?_))
 try simp only[Act.put]
 refine wp_let (fun V=>V.heap[cb]? = some o∧KeepF (fun k=>k=cb) w V) ⟨by rw[HX.out];exact setRow_heap _ _ _ N 127 (0,0) HB1.out,keepF_row (F:=fun k=>k=cb) (by rw[WA.out];exact KeepF.refl.alloc _) rfl _⟩ ?_
 rintro V ⟨v1,v2⟩
 have V1:=zh v1
 have V2:=zh v2
 clear v1 v2
 go_wp2
 go_ret
 exact⟨rfl,V1.out,V2.out⟩
set_option maxRecDepth 100000 in
set_option maxHeartbeats 1600000 in
theorem exclone_ok (g:Nat) (o:Obj) (w:World) (h:w.heap[g]? = some o) (ho:IsEx o) :
  Calls Tryz.prog 50 #[.pointer (some ⟨g,0,none⟩)] w fun e w'=>e=.returned (.pointer (some ⟨w.heap.size,0,none⟩))∧w'.heap[w.heap.size]? = some o∧Below w.heap.size w w':=by
 have HNO:=zh (fun V hV=>exnone_ok g o V hV ho)
 obtain⟨L,hX,hL⟩:=ho
 have HH:=zh h
 have HK:Hid (Blk w g 127 L):=zh (h.trans (by rw[hX]))
 have HSZ:Hid ((Tryz.prog.info? 127).map (·.size)=some L.size):=zh (by rw[hL,Array.size_setIfInBounds,zeroExp_size];exact sizeExp)
 have HO1:Hid (L.all (·.oneCell')=true):=zh (by rw[hL];exact exL_one)
 have HS2:Hid ((Tryz.zeroCells127).size=L.size):=zh (by rw[hL,Array.size_setIfInBounds])
 have HX:=zh hX
 clear h hX hL
 go_enter Tryz.func50,Tryz.ntmps50
 go_wp2_with (first
  | (go_at_call 75;refine(HNO.out _ HH.out).mono ?_;rintro e w1 ⟨rfl,rfl⟩)
  | (refine wpList_load_row rfl _ _ rfl g rfl 127 L (0,0) _ HK.out Tryz.underlying127 rfl HSZ.out ?_)
  | (refine wpList_store_row rfl _ _ _ rfl w.heap.size L rfl rfl 127 _ (Blk.new w _ _) HSZ.out HS2.out HO1.out ?_))
 go_ret
 refine⟨rfl,?_,belowRow ((Below.refl _ w).alloc (Nat.le_refl _) _) (Nat.le_refl _) _⟩
 rw[HX.out]
 exact Blk.setRow (Blk.new w _ _)
def RS.rekeyed (s:RS) (f c:Nat→Int):RS:={ s with C:=s.C.keys f c,used:=s.used++[kArr f] }
theorem rArr_keys (C:Cfg) (f c:Nat→Int) (now d nx:Int) (sb:Nat) (run:Bool) (lim ex:Int) (ub eb:Nat) (dup:Int):tsAll (tsAll (rArr C.arr now d nx sb run lim ex ub eb dup) 2 (kArr f).toList) 18 (kArr c).toList=rArr (C.keys f c).arr now d nx sb run lim ex ub eb dup:=by
 have l1:(kArr f).toList.length=16:=rfl
 have l2:(kArr c).toList.length=16:=rfl
 have hs:=rArr_size (now:=now) (d:=d) (nx:=nx) (sb:=sb) (run:=run) (lim:=lim) (ex:=ex) (ub:=ub) (eb:=eb) (dup:=dup) C.arr_size
 apply Array.ext_getElem?
 intro j
 by_cases h1:18≤j∧j < 34
 ·have:=tsAll_in (kArr c).toList 18 (tsAll (rArr C.arr now d nx sb run lim ex ub eb dup) 2 (kArr f).toList) (j-18) (by omega) (by rw[tsAll_size,hs];omega)
  rw[show 18+(j-18)=j by omega]at this
  rw[this,Array.getElem?_toList,kArr_at c _ (by omega),rArr_low (C.keys f c).arr_size (by omega),Cfg.arr_at _ (by omega)]
  unfold Cfg.cell
  rw[if_neg (by omega),if_neg (by omega),if_neg (by omega),if_pos (by omega)]
  rfl
 ·rw[tsAll_out _ _ _ _ (by omega)]
  by_cases h2:2≤j∧j < 18
  ·have:=tsAll_in (kArr f).toList 2 (rArr C.arr now d nx sb run lim ex ub eb dup) (j-2) (by omega) (by rw[hs];omega)
   rw[show 2+(j-2)=j by omega]at this
   rw[this,Array.getElem?_toList,kArr_at f _ (by omega),rArr_low (C.keys f c).arr_size (by omega),Cfg.arr_at _ (by omega)]
   unfold Cfg.cell
   rw[if_neg (by omega),if_neg (by omega),if_pos (by omega)]
   rfl
  ·rw[tsAll_out _ _ _ _ (by omega)]
   by_cases h3:j < 39
   ·rw[rArr_low C.arr_size h3,rArr_low (C.keys f c).arr_size h3,C.arr_at h3,Cfg.arr_at _ h3]
    unfold Cfg.cell Cfg.keys
    by_cases h4:j < 18
    ·have:j=0∨j=1:=by omega
     rcases this with rfl | rfl<;>rfl
    ·have:j=34∨j=35∨j=36∨j=37∨j=38:=by omega
     rcases this with rfl | rfl | rfl | rfl | rfl<;>rfl
   ·by_cases h4:j < 51
    ·have:=rArr_high (now:=now) (d:=d) (nx:=nx) (sb:=sb) (run:=run) (lim:=lim) (ex:=ex) (ub:=ub) (eb:=eb) (dup:=dup) C.arr_size (j-39)
     have h5:=rArr_high (now:=now) (d:=d) (nx:=nx) (sb:=sb) (run:=run) (lim:=lim) (ex:=ex) (ub:=ub) (eb:=eb) (dup:=dup) (C.keys f c).arr_size (j-39)
     rw[show 39+(j-39)=j by omega]at this h5
     rw[this,h5]
    ·rw[Array.getElem?_eq_none (by omega),Array.getElem?_eq_none (by rw[rArr_size (C.keys f c).arr_size];omega)]
section
variable {w w1:World} {g:Nat} {s:RS} {W R:Nat→Prop} {sb:Nat} {l:List SE} {ub eb:Nat}
theorem RxM.setUsed (h:RxM w g s W R sb l ub eb) (hk:KeepF (fun k=>k=ub) w w1) {L:List (Array Value)} (hu:UK w1 ub L):RxM w1 g { s with used:=L } W R sb l ub eb:=
 ⟨hk.blk h.blk (fun e=>h.gu e),h.lv,h.st.keepF hk (fun e=>h.su e),h.ris,h.rng,hu,(hk.block _ (h.win _ h.wx) (fun e=>h.xu e)).trans h.x,fun e he=>(h.pk e he).keep hk (fun k e2 hr=>h.dis k (e2 ▸ h.wu) hr),⟨h.ok.now,h.ok.deliver,h.ok.next,h.ok.limit,h.ok.expiry,h.ok.dup⟩,h.wg,h.ws,h.wu,h.wx,h.xg,h.xs,h.xu,h.su,h.dis,fun k hw=>Nat.lt_of_lt_of_le (h.win k hw) hk.size,fun k hw=>Nat.lt_of_lt_of_le (h.rin k hw) hk.size,h.xo⟩
theorem RxM.setExp (h:RxM w g s W R sb l ub eb) (hk:KeepF (fun k=>k=eb) w w1) (ho:w1.heap[eb]? = some s.exp):RxM w1 g s W R sb l ub eb:=
 ⟨hk.blk h.blk (fun e=>h.xg e.symm),h.lv,h.st.keepF hk (fun e=>h.xs e.symm),h.ris,h.rng,h.u.keep (hk.block _ h.u.lt (fun e=>h.xu e.symm)),ho,fun e he=>(h.pk e he).keep hk (fun k e2 hr=>h.dis k (e2 ▸ h.wx) hr),h.ok,h.wg,h.ws,h.wu,h.wx,h.xg,h.xs,h.xu,h.su,h.dis,fun k hw=>Nat.lt_of_lt_of_le (h.win k hw) hk.size,fun k hw=>Nat.lt_of_lt_of_le (h.rin k hw) hk.size,h.xo⟩
theorem RxM.setCfg (h:RxM w g s W R sb l ub eb) (hk:KeepF (fun k=>k=g) w w1) {f c:Nat→Int} (hb:Blk w1 g 83 (rArr (s.C.keys f c).arr s.now s.deliver s.next sb s.run s.limit s.expiry ub eb s.dup)):RxM w1 g { s with C:=s.C.keys f c } W R sb l ub eb:=
 h.one (s':={ s with C:=s.C.keys f c }) hk hb rfl rfl rfl h.rng ⟨h.ok.now,h.ok.deliver,h.ok.next,h.ok.limit,h.ok.expiry,h.ok.dup⟩
end
set_option maxRecDepth 100000 in
set_option maxHeartbeats 1600000 in
theorem rrekey_used (g:Nat) (s:RS) (W R:Nat→Prop) (sb:Nat) (l:List SE) (ub eb:Nat) (w:World) (h:RxM w g s W R sb l ub eb) (U:List (Nat→Int)) (hU:s.used=U.map kArr) (f c:Nat→Int) (hno:hasKey f U=true) :
  Calls Tryz.prog 46 #[.pointer (some ⟨g,0,none⟩),.agg (kArr f),.agg (kArr c)] w fun e w'=>e=.returned (.int .i64 461)∧Below w.heap.size w w':=by
 have HNO:=zh (fun(V:World) (hb:Below w.heap.size w V)=>rxmade_ok g V (h.below hb).made)
 have HT:=zh h
 have hT:=h
 have HLK:=zh (fun(V:World) (hb:Below w.heap.size w V)=>k_lookup V ub U f (by rw[←hU];exact(hT.below hb).u))
 have HSK:=zh (k_size f)
 have HSC:=zh (k_size c)
 have HOK:=zh (k_one f)
 have HOC:=zh (k_one c)
 have HUK:=zh Tryz.underlying23
 obtain⟨KF,hKF⟩:∃KF,KF=kArr f:=⟨_,rfl⟩
 obtain⟨KC,hKC⟩:∃KC,KC=kArr c:=⟨_,rfl⟩
 have HKF:=zh hKF
 have HKC:=zh hKC
 rw[←hKF]at HLK HSK HOK ⊢
 rw[←hKC]at HSC HOC ⊢
 rw[hno]at HLK
 clear hT h hKF hKC hU hno
 go_enter Tryz.func46,Tryz.ntmps46
 go_upto_region 1 with (fail)
 obtain⟨kb,hkb⟩:∃kb,kb=w.heap.size:=⟨_,rfl⟩
 have HKB:=zh hkb
 refine wp_let (fun V=>Blk V kb 23 KF∧Blk V (kb+1) 23 KC∧Below w.heap.size w V) ⟨by rw[hkb];exact(blk_atZ _ _ _ _ rfl).alloc _,by rw[hkb];exact blk_atZ _ _ _ _ (by simp),((Below.refl _ w).alloc (Nat.le_refl _) _).alloc (by simp) _⟩ ?_
 rintro W1 ⟨b1,b2,b3⟩
 have B1:=zh b1
 have B2:=zh b2
 have B3:=zh b3
 rw[←hkb]
 clear b1 b2 b3 hkb
 go_upto_region 3 with (go_at_call 43;refine(HNO.out _ B3.out).mono ?_;rintro e w3 ⟨rfl,rfl⟩)
 have HKR:=zh (show ∀W',Below W1.heap.size W1 W'→W'.rangeAt kb 0 KF.toList from fun W' hW=>(B1.out.below hW B1.out.lt).range _ (by simp))
 have HC47:=zh (show ∀W',Below W1.heap.size W1 W'→W'.cell? ⟨g,47,none⟩=some (.map (some ub))from fun W' hW=>(HT.out.below (B3.out.trans (hW.mono B3.out.size))).cu)
 have HL2:=zh (show ∀W',Below W1.heap.size W1 W'→(Instr.lookup 79 (.map (some ub)) (.agg KF) false).run Tryz.prog W'=.ok (.bool true) W' from fun W' hW=>HLK.out W' (B3.out.trans (hW.mono B3.out.size)))
 refine wp_region_held_drew (S:=fun w'=>Below W1.heap.size W1 w') (by kernel_rfl) ((Below.refl _ W1).drew) (fun hHeld=>?_)
 obtain⟨w0,hw0⟩:∃w0,w0=W1.drew:=⟨_,rfl⟩
 rw[←hw0]
 rw[←hw0]at hHeld
 clear hw0
 refine tkH (i:=0) (oi:=⟨some 11,_,_,_,_,_⟩) (v:=.pointer (some ⟨g,0,none⟩)) rfl (Or.inl ⟨by rfl,fun W hW=>(by rfl)⟩) (by assumption) ?_
 refine tkH (i:=1) (oi:=⟨some 12,_,_,_,_,_⟩) (v:=.pointer (some ⟨g,0,none⟩)) rfl (Or.inl ⟨by rfl,fun W hW=>(by go_simp)⟩) (by assumption) ?_
 refine tkH (i:=2) (oi:=⟨some 13,_,_,_,_,_⟩) (v:=.pointer (some ⟨g,47,none⟩)) rfl (Or.inl ⟨by rfl,fun W hW=>(by go_simp)⟩) (by assumption) ?_
 refine tkH (i:=3) (oi:=⟨some 14,_,_,_,_,_⟩) (v:=.map (some ub)) rfl (Or.inl ⟨by rfl,fun W hW=>(by have:=HC47.out W hW;go_simp)⟩) (by assumption) ?_
 refine' tkH (i:=4) (oi:=⟨some 15,_,_,_,_,_⟩) (v:=_) rfl (yieldsIf_load_mid (by rfl) _ _ rfl kb 0 rfl KF.toList _ (fun w h=>HKR.out w h) HUK.out rfl HSK.out) (by assumption) ?_
 refine tkH (i:=5) (oi:=⟨some 16,_,_,_,_,_⟩) (v:=.bool true) rfl (Or.inl ⟨by rfl,fun W hW=>(by have:=HL2.out W hW;go_simp)⟩) (by assumption) ?_
 refine tkH (i:=6) (oi:=⟨some 10,_,_,_,_,_⟩) (v:=.bool true) rfl (Or.inl ⟨by rfl,fun W hW=>(by rfl)⟩) (by assumption) ?_
 refine wpAnyH_done (by kernel_rfl) ?_ _
 have H2:=zh hHeld
 clear hHeld
 go_wp2
 go_ret
 exact⟨rfl,B3.out.trans (H2.out.mono B3.out.size)⟩
set_option maxRecDepth 100000 in
set_option maxHeartbeats 3200000 in
theorem rrekey_new (g:Nat) (s:RS) (W R:Nat→Prop) (sb:Nat) (l:List SE) (ub eb:Nat) (w:World) (h:RxM w g s W R sb l ub eb) (U:List (Nat→Int)) (hU:s.used=U.map kArr) (hcm:s.C.cm=false) (f c:Nat→Int) (hno:hasKey f U=false) :
  Calls Tryz.prog 46 #[.pointer (some ⟨g,0,none⟩),.agg (kArr f),.agg (kArr c)] w fun e w'=>e=.returned (.int .i64 0)∧RxM w' g (s.rekeyed f c) W R sb l ub eb∧KeepF W w w':=by
 have HNO:=zh (fun(V:World) (hb:Below w.heap.size w V)=>rxmade_ok g V (h.below hb).made)
 have HT:=zh h
 have hT:=h
 have HLK:=zh (fun(V:World) (hb:Below w.heap.size w V)=>k_lookup V ub U f (by rw[←hU];exact(hT.below hb).u))
 have HSK:=zh (k_size f)
 have HSC:=zh (k_size c)
 have HOK:=zh (k_one f)
 have HOC:=zh (k_one c)
 have HUK:=zh Tryz.underlying23
 have HPUT:=zh (fun(V:World) (hb:Below w.heap.size w V)=>k_put V ub U f (by rw[←hU];exact(hT.below hb).u) hno)
 have HU2:=zh (show(U++[f]).map kArr=s.used++[kArr f] by rw[hU,List.map_append];rfl)
 have HXO:=zh (HT.out.xo hcm)
 clear hcm
 obtain⟨KF,hKF⟩:∃KF,KF=kArr f:=⟨_,rfl⟩
 obtain⟨KC,hKC⟩:∃KC,KC=kArr c:=⟨_,rfl⟩
 have HKF:=zh hKF
 have HKC:=zh hKC
 rw[←hKF]at HLK HSK HOK ⊢
 rw[←hKC]at HSC HOC ⊢
 rw[hno]at HLK
 rw[←hKF]at HPUT HU2
 clear hT h hKF hKC hU hno
 go_enter Tryz.func46,Tryz.ntmps46
 go_upto_region 1 with (fail)
 obtain⟨kb,hkb⟩:∃kb,kb=w.heap.size:=⟨_,rfl⟩
 have HKB:=zh hkb
 refine wp_let (fun V=>Blk V kb 23 KF∧Blk V (kb+1) 23 KC∧Below w.heap.size w V) ⟨by rw[hkb];exact(blk_atZ _ _ _ _ rfl).alloc _,by rw[hkb];exact blk_atZ _ _ _ _ (by simp),((Below.refl _ w).alloc (Nat.le_refl _) _).alloc (by simp) _⟩ ?_
 rintro W1 ⟨b1,b2,b3⟩
 have B1:=zh b1
 have B2:=zh b2
 have B3:=zh b3
 rw[←hkb]
 clear b1 b2 b3 hkb
 go_upto_region 3 with (go_at_call 43;refine(HNO.out _ B3.out).mono ?_;rintro e w3 ⟨rfl,rfl⟩)
 have HKR:=zh (show ∀W',Below W1.heap.size W1 W'→W'.rangeAt kb 0 KF.toList from fun W' hW=>(B1.out.below hW B1.out.lt).range _ (by simp))
 have HC47:=zh (show ∀W',Below W1.heap.size W1 W'→W'.cell? ⟨g,47,none⟩=some (.map (some ub))from fun W' hW=>(HT.out.below (B3.out.trans (hW.mono B3.out.size))).cu)
 have HL2:=zh (show ∀W',Below W1.heap.size W1 W'→(Instr.lookup 79 (.map (some ub)) (.agg KF) false).run Tryz.prog W'=.ok (.bool false) W' from fun W' hW=>HLK.out W' (B3.out.trans (hW.mono B3.out.size)))
 refine wp_region_held_drew (S:=fun w'=>Below W1.heap.size W1 w') (by kernel_rfl) ((Below.refl _ W1).drew) (fun hHeld=>?_)
 obtain⟨w0,hw0⟩:∃w0,w0=W1.drew:=⟨_,rfl⟩
 rw[←hw0]
 rw[←hw0]at hHeld
 clear hw0
 refine tkH (i:=0) (oi:=⟨some 11,_,_,_,_,_⟩) (v:=.pointer (some ⟨g,0,none⟩)) rfl (Or.inl ⟨by rfl,fun W hW=>(by rfl)⟩) (by assumption) ?_
 refine tkH (i:=1) (oi:=⟨some 12,_,_,_,_,_⟩) (v:=.pointer (some ⟨g,0,none⟩)) rfl (Or.inl ⟨by rfl,fun W hW=>(by go_simp)⟩) (by assumption) ?_
 refine tkH (i:=2) (oi:=⟨some 13,_,_,_,_,_⟩) (v:=.pointer (some ⟨g,47,none⟩)) rfl (Or.inl ⟨by rfl,fun W hW=>(by go_simp)⟩) (by assumption) ?_
 refine tkH (i:=3) (oi:=⟨some 14,_,_,_,_,_⟩) (v:=.map (some ub)) rfl (Or.inl ⟨by rfl,fun W hW=>(by have:=HC47.out W hW;go_simp)⟩) (by assumption) ?_
 refine' tkH (i:=4) (oi:=⟨some 15,_,_,_,_,_⟩) (v:=_) rfl (yieldsIf_load_mid (by rfl) _ _ rfl kb 0 rfl KF.toList _ (fun w h=>HKR.out w h) HUK.out rfl HSK.out) (by assumption) ?_
 refine tkH (i:=5) (oi:=⟨some 16,_,_,_,_,_⟩) (v:=.bool false) rfl (Or.inl ⟨by rfl,fun W hW=>(by have:=HL2.out W hW;go_simp)⟩) (by assumption) ?_
 refine tkH (i:=6) (oi:=⟨some 10,_,_,_,_,_⟩) (v:=.bool false) rfl (Or.inl ⟨by rfl,fun W hW=>(by rfl)⟩) (by assumption) ?_
 refine wpAnyH_done (by kernel_rfl) ?_ _
 have H2:=zh hHeld
 clear hHeld
 go_upto_region 5 with (fail)
 have H3:=zh (B3.out.trans (H2.out.mono B3.out.size))
 have T3:=zh (HT.out.below H3.out)
 have D1:=zh (B1.out.below H2.out B1.out.lt)
 have D2:=zh (B2.out.below H2.out B2.out.lt)
 obtain⟨W5,hW5⟩:∃W5,W5=w0:=⟨_,rfl⟩
 rw[←hW5]at H3 T3 D1 D2 ⊢
 clear hW5
 have HKR2:=zh (show ∀W',Below W5.heap.size W5 W'→W'.rangeAt kb 0 KF.toList from fun W' hW=>(D1.out.below hW D1.out.lt).range _ (by simp))
 have HD47:=zh (show ∀W',Below W5.heap.size W5 W'→W'.cell? ⟨g,47,none⟩=some (.map (some ub))from fun W' hW=>(T3.out.below hW).cu)
 refine wp_region_held_drew (S:=fun w'=>KeepF (fun k=>k=ub) W5 w') (by kernel_rfl) (KeepF.refl.drew) (fun hHeld=>?_)
 obtain⟨w5,hw5⟩:∃w5,w5=W5.drew:=⟨_,rfl⟩
 have hb5:Below W5.heap.size W5 w5:=by rw[hw5];exact(Below.refl _ _).drew
 have HE:=zh (show ∀W',KeepF (fun k=>k=ub) W5 W'→W'.cell? ⟨g,47,none⟩=some (.map (some ub))from fun W' hW=>(hW.cell (p:=⟨g,47,none⟩) T3.out.blk.lt T3.out.gu).trans T3.out.cu)
 have HER:=zh (show ∀W',KeepF (fun k=>k=ub) W5 W'→W'.rangeAt kb 0 KF.toList from fun W' hW=>(hW.blk D1.out (fun e=>by have:=HT.out.u.lt;have:=HKB.out;omega)).range _ (by simp))
 rw[←hw5]
 rw[←hw5]at hHeld
 obtain⟨X,hput,hUK,hKX⟩:=HPUT.out w5 (H3.out.trans (hb5.mono H3.out.size))
 have hTX:=(T3.out.below hb5).setUsed hKX hUK
 rw[HU2.out]at hTX
 clear hw5
 refine tkH (i:=0) (oi:=⟨some 17,_,_,_,_,_⟩) (v:=.pointer (some ⟨g,0,none⟩)) rfl (Or.inl ⟨by rfl,fun W hW=>(by rfl)⟩) (by assumption) ?_
 refine tkH (i:=1) (oi:=⟨some 18,_,_,_,_,_⟩) (v:=.pointer (some ⟨g,0,none⟩)) rfl (Or.inl ⟨by rfl,fun W hW=>(by go_simp)⟩) (by assumption) ?_
 refine tkH (i:=2) (oi:=⟨some 19,_,_,_,_,_⟩) (v:=.pointer (some ⟨g,47,none⟩)) rfl (Or.inl ⟨by rfl,fun W hW=>(by go_simp)⟩) (by assumption) ?_
 refine tkH (i:=3) (oi:=⟨some 20,_,_,_,_,_⟩) (v:=.map (some ub)) rfl (Or.inl ⟨by rfl,fun W hW=>(by have:=HE.out W hW;go_simp)⟩) (by assumption) ?_
 refine' tkH (i:=4) (oi:=⟨some 21,_,_,_,_,_⟩) (v:=_) rfl (yieldsIf_load_mid (by rfl) _ _ rfl kb 0 rfl KF.toList _ (fun w h=>HER.out w h) HUK.out rfl HSK.out) (by assumption) ?_
 refine wpAnyH_ready (rs:=[5]) (by kernel_rfl) (by simp) ?_
 refine AllReadyH.cons (o:=⟨none,_,_,_,_,_⟩) rfl (fun K hK=>?_) AllReadyH.nil
 rw[if_pos (by rfl)]
 go_simp
 refine hK.out _ _ (hHeld.trans hKX (fun k _ hk=>hk)) (fun hHeld=>?_)
 clear hK K hput
 try simp only[Act.put]
 refine wpAnyH_done (by kernel_rfl) ?_ _
 have HTX:=zh hTX
 have H5:=zh (hHeld)
 have XD1:=zh (hHeld.blk D1.out (fun e=>by have:=HT.out.u.lt;have:=HKB.out;omega))
 have XD2:=zh (hHeld.blk D2.out (fun e=>by have:=HT.out.u.lt;have:=HKB.out;omega))
 clear hTX hKX hUK hHeld
 go_upto_region 6 with (fail)
 have HGB:=zh (show g < kb from by have:=HT.out.blk.lt;have:=HKB.out;omega)
 have HF1:=zh (show ∀W',KeepF (fun k=>k=g) X W'→W'.rangeAt kb 0 KF.toList from fun W' hW=>(hW.blk XD1.out (fun e=>by have:=HGB.out;omega)).range _ (by simp))
 have HF2:=zh (show ∀W',KeepF (fun k=>k=g) X W'→W'.rangeAt (kb+1) 0 KC.toList from fun W' hW=>(hW.blk XD2.out (fun e=>by have:=HGB.out;omega)).range _ (by simp))
 have HSKF:Hid ((Tryz.prog.info? 23).map (·.size)=some KF.size):=zh (by rw[HKF.out];kernel_rfl)
 have HSKC:Hid ((Tryz.prog.info? 23).map (·.size)=some KC.size):=zh (by rw[HKC.out];kernel_rfl)
 refine wp_region_held_drew (S:=fun w'=>KeepF (fun k=>k=g) X w') (by kernel_rfl) (KeepF.refl.drew) (fun hHeld=>?_)
 obtain⟨w6,hw6⟩:∃w6,w6=X.drew:=⟨_,rfl⟩
 have hb6:Below X.heap.size X w6:=by rw[hw6];exact(Below.refl _ _).drew
 rw[←hw6]
 rw[←hw6]at hHeld
 have hT6:=HTX.out.below hb6
 clear hw6 hb6
 refine tkH (i:=0) (oi:=⟨some 22,_,_,_,_,_⟩) (v:=.pointer (some ⟨g,0,none⟩)) rfl (Or.inl ⟨by rfl,fun W hW=>(by rfl)⟩) (by assumption) ?_
 refine tkH (i:=1) (oi:=⟨some 23,_,_,_,_,_⟩) (v:=.pointer (some ⟨g,0,none⟩)) rfl (Or.inl ⟨by rfl,fun W hW=>(by rfl)⟩) (by assumption) ?_
 refine' tkH (i:=2) (oi:=⟨some 24,_,_,_,_,_⟩) (v:=_) rfl (yieldsIf_load_mid (by rfl) _ _ rfl kb 0 rfl KF.toList _ (fun w h=>HF1.out w h) HUK.out rfl HSK.out) (by assumption) ?_
 refine' tkH (i:=3) (oi:=⟨some 25,_,_,_,_,_⟩) (v:=_) rfl (yieldsIf_load_mid (by rfl) _ _ rfl (kb+1) 0 rfl KC.toList _ (fun w h=>HF2.out w h) HUK.out rfl HSC.out) (by assumption) ?_
 refine tkH (i:=4) (oi:=⟨some 26,_,_,_,_,_⟩) (v:=.pointer (some ⟨g,0,none⟩)) rfl (Or.inl ⟨by rfl,fun W hW=>(by go_simp)⟩) (by assumption) ?_
 refine tkH (i:=5) (oi:=⟨some 27,_,_,_,_,_⟩) (v:=.pointer (some ⟨g,0,none⟩)) rfl (Or.inl ⟨by rfl,fun W hW=>(by go_simp)⟩) (by assumption) ?_
 refine tkH (i:=6) (oi:=⟨some 28,_,_,_,_,_⟩) (v:=.pointer (some ⟨g,2,none⟩)) rfl (Or.inl ⟨by rfl,fun W hW=>(by go_simp)⟩) (by assumption) ?_
 refine wpAnyH_ready (rs:=[7]) (by kernel_rfl) (by simp) ?_
 refine AllReadyH.cons (o:=⟨none,_,_,_,_,_⟩) rfl (fun K hK=>?_) AllReadyH.nil
 rw[if_pos (by rfl)]
 refine wp_store_mid _ _ _ rfl g 2 KF rfl rfl (blk_there hT6.blk 2 KF.size (by rw[HKF.out,rArr_size s.C.arr_size];show 2+16≤51;decide)) HSKF.out HOK.out ?_
 have hk1:KeepF (fun k=>k=g) X (w6.setCells g 2 KF.toList):=hHeld.trans (ts_keep (F:=fun k=>k=g) rfl _ _ _) (fun _ _ h=>h)
 have hB1:=ts_setCells KF.toList 2 w6 _ hT6.blk
 obtain⟨v1,hv1⟩:∃v1,v1=w6.setCells g 2 KF.toList:=⟨_,rfl⟩
 rw[←hv1]at hk1 hB1 ⊢
 refine hK.out _ _ hk1 (fun hHeld=>?_)
 clear hK K hk1 hv1 hT6
 try simp only[Act.put]
 refine tkH (i:=8) (oi:=⟨some 29,_,_,_,_,_⟩) (v:=.pointer (some ⟨g,0,none⟩)) rfl (Or.inl ⟨by rfl,fun W hW=>(by go_simp)⟩) (by assumption) ?_
 refine tkH (i:=9) (oi:=⟨some 30,_,_,_,_,_⟩) (v:=.pointer (some ⟨g,0,none⟩)) rfl (Or.inl ⟨by rfl,fun W hW=>(by go_simp)⟩) (by assumption) ?_
 refine tkH (i:=10) (oi:=⟨some 31,_,_,_,_,_⟩) (v:=.pointer (some ⟨g,18,none⟩)) rfl (Or.inl ⟨by rfl,fun W hW=>(by go_simp)⟩) (by assumption) ?_
 refine wpAnyH_ready (rs:=[11]) (by kernel_rfl) (by simp) ?_
 refine AllReadyH.cons (o:=⟨none,_,_,_,_,_⟩) rfl (fun K hK=>?_) AllReadyH.nil
 rw[if_pos (by rfl)]
 refine wp_store_mid _ _ _ rfl g 18 KC rfl rfl (blk_there hB1 18 KC.size (by rw[HKC.out,tsAll_size,rArr_size s.C.arr_size];show 18+16≤51;decide)) HSKC.out HOC.out ?_
 have hk2:KeepF (fun k=>k=g) X (v1.setCells g 18 KC.toList):=hHeld.trans (ts_keep (F:=fun k=>k=g) rfl _ _ _) (fun _ _ h=>h)
 have hB2:=ts_setCells KC.toList 18 v1 _ hB1
 obtain⟨v2,hv2⟩:∃v2,v2=v1.setCells g 18 KC.toList:=⟨_,rfl⟩
 rw[←hv2]at hk2 hB2 ⊢
 refine hK.out _ _ hk2 (fun hHeld=>?_)
 clear hK K hk2 hv2
 try simp only[Act.put]
 refine wpAnyH_done (by kernel_rfl) ?_ _
 rw[HKF.out,HKC.out,rArr_keys]at hB2
 have T6:=zh (HTX.out.setCfg hHeld hB2)
 have H6:=zh hHeld
 clear hHeld hB1 hB2
 have cx:=T6.out.cx
 go_wp2_with (go_at_call 73;refine(exreset_ok eb s.exp _ T6.out.x HXO.out).mono ?_;rintro e v3 ⟨rfl,hc,hk⟩;have T7:=zh (T6.out.setExp hk hc);have H7:=zh hk;clear hc hk)
 go_ret
 refine⟨rfl,?_,(((KeepF.of_below (F:=W) H3.out).trans (H5.out.mono (G:=W) (fun k e=>by rw[e];exact HT.out.wu)) (fun _ _ h=>h)).trans (H6.out.mono (G:=W) (fun k e=>by rw[e];exact HT.out.wg)) (fun _ _ h=>h)).trans (H7.out.mono (G:=W) (fun k e=>by rw[e];exact HT.out.wx)) (fun _ _ h=>h)⟩
 have h7:=T7.out
 rw[HKF.out]at h7
 exact h7
end Go.Proofs.YtnadmdadcpemnaaGreat

import Derived.Test.YtjanmleoomoedaaGreatMGP
import Derived.Deep.Slices
namespace Go.Proofs.YtjanmleoomoedaaGreat
open Go.RowKit
set_option linter.unusedVariables false
attribute [local go_sem ↓] Go.wp_at_zero Go.wp_at_succ
private theorem zh {p:Prop} (h:p):Hid p:=h
private theorem tkH {P:Program} {ops:Array Oper} {Q:Exit→Act→World→Prop} {md:Region.Mode} {S:World→Prop} {i:Nat} {oi:Oper} {v:Value} {fuel:Nat} {listed l':Array Bool} {a a':Act} {w:World} (hi:ops[i]? = some oi) (hy:YieldsIf P ops S oi v a) (hS:S w)
  (h:wpAnyH P md ops Q S fuel l' a' w) (hl:listed.setIfInBounds i true=l':=by(try simp only[List.setIfInBounds_toArray,List.set_cons_zero,List.set_cons_succ]);rfl) (ha:a.put oi.dst v=a':=by(try simp only[Act.put,List.setIfInBounds_toArray,List.set_cons_zero,List.set_cons_succ]);rfl) (hs:Region.noSelect ops=true:=by kernel_rfl) (hf:Region.free md ops listed i=true:=by kernel_rfl) (hr:(Region.ready md ops listed).contains i=true:=by kernel_rfl)
  (hQ:∀c a w,Q (.panic c) (a.put oi.dst v) w→Q (.panic c) a w:=by exact fun _ _ _ h=>h):wpAnyH P md ops Q S (fuel+1) listed a w:=by subst hl;subst ha;exact wpAnyH_take hi hs hf hr hQ hy hS h
def keyEq (f g:Nat→Int):Bool:=(List.range 16).all fun j=>decide (f j=g j)
theorem keyEq_iff {f g:Nat→Int}:keyEq f g=true↔∀j,j < 16→f j=g j:=by
 unfold keyEq
 simp
theorem kArr_inj {f g:Nat→Int} (h:kArr f=kArr g):∀j,j < 16→f j=g j:=fun j hj=>by
 have:=congrArg (fun a:Array Value=>a[j]?) h
 simp only[kArr_at f j hj,kArr_at g j hj,Option.some.injEq,Value.int.injEq,true_and]at this
 exact this
theorem k_items2 (f g:Nat→Int) (d:Nat):∀(is:List Nat) (_:∀i,i∈is→i < 16) (w:World),(Op.eqItems (d+1) 5 1 (kArr f) (kArr g) is).run Tryz.prog w=.ok (is.all fun j=>decide (f j=g j)) w
 | [],_,w=>by simp[Op.eqItems]
 | i :: is,h,w=>by
  simp only[Op.eqItems,Sem.run_bind,k_part f i (h i (by simp)) w,k_part g i (h i (by simp)) w,Result.andThen_ok]
  have hr:=k_items2 f g d is (fun j hj=>h j (by simp[hj])) w
  by_cases e:f i=g i
  ·simp[go_sem,hr,e]
  ·have e2:(f i == g i)=false:=by simpa using e
   simp[go_sem,e,e2]
theorem k_eq (f g:Nat→Int) (d:Nat) (w:World):(Op.equalIn (d+2) 23 (.agg (kArr f)) (.agg (kArr g))).run Tryz.prog w=.ok (keyEq f g) w:=by
 obtain⟨q,hq,_⟩:=info_parts Tryz.infoByte
 rw[run_equalIn_array w (d+1) (kArr f) (kArr g) Tryz.underlying23 hq,cells5,k_items2 f g d (List.range 16) (fun i hi=>by simpa using hi) w]
 rfl
def kAt (f:Nat→Int):List (Nat→Int)→Nat→Option Nat
 | [],_=>none
 | g :: gs,i=>if keyEq f g=true then some i else kAt f gs (i+1)
def hasKey (f:Nat→Int) (U:List (Nat→Int)):Bool:=U.any (keyEq f)
theorem kAt_has (f:Nat→Int):∀(U:List (Nat→Int)) (i:Nat),(kAt f U i).isSome=hasKey f U
 | [],_=>rfl
 | g :: gs,i=>by
  have:=kAt_has f gs (i+1)
  unfold kAt hasKey
  rw[List.any_cons]
  by_cases h:keyEq f g=true
  ·rw[if_pos h,h];rfl
  ·have h2:keyEq f g=false:=by simpa using h
   rw[if_neg h,h2,this];rfl
theorem k_ask (f:Nat→Int) (w:World):∀(es:List MapEntry) (U:List (Nat→Int)) (_:es.map (·.key)=(U.map kArr).map Value.agg) (_:∀e,e∈es→e.val=.bool true) (i:Nat),(Instr.findAsking 23 (.agg (kArr f)) es i).run Tryz.prog w=.ok ((kAt f U i).map fun j=>(j,.bool true)) w
 | [],[],_,_,_=>by simp[Instr.findAsking,kAt]
 | [],g :: gs,h,_,_=>by cases h
 | e :: es,[],h,_,_=>by cases h
 | e :: es,g :: gs,h,hv,i=>by
  simp only[List.map_cons,List.cons.injEq]at h
  have ih:=k_ask f w es gs h.2 (fun e he=>hv e (by simp[he])) (i+1)
  have hq:(Op.equal 23 (.agg (kArr f)) e.key).run Tryz.prog w=.ok (keyEq f g) w:=by
   rw[h.1]
   exact k_eq f g 9998 w
  unfold Instr.findAsking kAt
  by_cases hfg:keyEq f g=true
  ·rw[hfg]at hq
   simp[hq,hfg,hv e (by simp)]
  ·have h2:keyEq f g=false:=by simpa using hfg
   rw[h2]at hq
   simp[hq,h2,ih]
theorem k_checkE (e:Bool) (f:Nat→Int) (W:World):(Instr.checkKey e 10000 23 (.agg (kArr f))).run Tryz.prog W=.ok () W:=by
 cases e<;>kernel_rfl
theorem k_find (f:Nat→Int) (w:World) (es:List MapEntry) (U:List (Nat→Int)) (h:es.map (·.key)=(U.map kArr).map Value.agg) (hv:∀e,e∈es→e.val=.bool true):(Instr.findKey 23 (.agg (kArr f)) es).run Tryz.prog w=.ok ((kAt f U 0).map fun j=>(j,.bool true)) w:=by
 unfold Instr.findKey
 simp only[Sem.run_bind,run_underlying Tryz.underlying23,Result.andThen_ok]
 cases es with
 | nil=>
  cases U with
  | nil=>simp[Instr.findNow,kAt]
  | cons g gs=>cases h
 | cons e es=>
  have hn:∀d,Instr.findNow (.array 16 d) (.agg (kArr f)) (e :: es) 0=none:=fun d=>by
   unfold Instr.findNow
   rfl
  rw[hn]
  exact k_ask f w (e :: es) U h hv 0
theorem k_lookup (W:World) (m:Nat) (U:List (Nat→Int)) (f:Nat→Int) (h:UK W m (U.map kArr)):(Instr.lookup 60 (.map (some m)) (.agg (kArr f)) false).run Tryz.prog W=.ok (.bool (hasKey f U)) W:=by
 obtain⟨es,c,h1,h2,h3⟩:=h
 have hf:=k_find f W es.toList U h2 h3
 have hc:=fun e=>k_checkE e f W
 have hz:(zeroValue 4).run Tryz.prog W=.ok (.bool false) W:=by kernel_rfl
 have hh:=kAt_has f U 0
 cases hk:kAt f U 0 with
 | none=>
  rw[hk]at hf hh
  have hh:hasKey f U=false:=hh.symm
  simp only[Option.map_none]at hf
  simp[Instr.lookup,run_underlying Tryz.underlying60,MapKept.run_getObj_map h1,hc,hf,hz,hh]
 | some j=>
  rw[hk]at hf hh
  have hh:hasKey f U=true:=hh.symm
  simp only[Option.map_some]at hf
  simp[Instr.lookup,run_underlying Tryz.underlying60,MapKept.run_getObj_map h1,hc,hf,hh]
theorem k_put (W:World) (m:Nat) (U:List (Nat→Int)) (f:Nat→Int) (h:UK W m (U.map kArr)) (hno:hasKey f U=false):∃X,(Instr.mapUpdate 60 (.map (some m)) (.agg (kArr f)) (.bool true)).run Tryz.prog W=.ok () X∧UK X m ((U++[f]).map kArr)∧KeepF (fun k=>k=m) W X:=by
 obtain⟨es,c,h1,h2,h3⟩:=h
 have hf:=k_find f W es.toList U h2 h3
 have hh:=kAt_has f U 0
 rw[hno]at hh
 have hk:kAt f U 0=none:=by
  cases hk:kAt f U 0 with
  | none=>rfl
  | some j=>rw[hk]at hh;cases hh
 rw[hk]at hf
 simp only[Option.map_none]at hf
 have hlt:m < W.heap.size:=(Array.getElem?_eq_some_iff.1 h1).1
 refine⟨W.putObj m (.map (es.push { key:=.agg (kArr f),val:=.bool true,born:=c }) (c+1)),?_,⟨_,_,World.putObj_heap_same hlt,by simp[h2],fun e he=>?_⟩,KeepF.of_row (grownBy_putObj' W m _) rfl⟩
 ·simp[Instr.mapUpdate,run_underlying Tryz.underlying60,MapKept.run_getObj_map h1,k_checkE false f W,hf,MapKept.run_setObj_map _ h1,Result.andThen,World.putObj]
 ·rcases Array.mem_push.1 (Array.mem_toList_iff.1 he)with h | h
  ·exact h3 e (Array.mem_toList_iff.2 h)
  ·rw[h]
theorem keepF_row {F:Nat→Prop} {w w':World} (h:KeepF F w w') {g:Nat} (hg:F g) (cs:Array Value):KeepF F w (w'.setRow g cs):=by
 have hb:=belowRow (Below.refl 0 w') (Nat.zero_le g) cs
 exact⟨hb.os.trans h.os,hb.tape.trans h.tape,hb.output.trans h.output,Nat.le_trans h.size hb.size,fun k hk hn=>(setRow_other _ _ _ _ (fun e=>hn (by rw[e];exact hg))).trans (h.block k hk hn)⟩
def CompOk (o:Obj):Prop:=∃X:Array Value,o=.cells X 111 (0,0)∧X.size=226∧X[0]? = some (.bool true)
theorem cNew_ok:CompOk cNew:=⟨_,rfl,by rw[Array.size_setIfInBounds,zcC_size],by rw[Array.getElem?_setIfInBounds_self_of_lt (by rw[zcC_size];decide)]⟩
theorem sizeComp:(Tryz.prog.info? 111).map (·.size)=some 226:=by kernel_rfl
theorem comp_one:(zcC.setIfInBounds 0 (.bool true)).all (·.oneCell')=true:=by kernel_rfl
theorem cnone_ok (cb:Nat) (o:Obj) (w:World) (h:w.heap[cb]? = some o) (ho:CompOk o):Calls Tryz.prog 63 #[.pointer (some ⟨cb,0,none⟩)] w fun e w'=>e=.returned (.bool false)∧w=w':=by
 obtain⟨X,rfl,hs,h0⟩:=ho
 have c0:w.cell? ⟨cb,0,none⟩=some (.bool true):=(Blk.cell (show Blk w cb 111 X from h) 0).trans h0
 clear h
 go_enter Tryz.func63,Tryz.ntmps63
 go_wp2
 go_ret
 exact⟨rfl,rfl⟩
set_option maxRecDepth 100000 in
set_option maxHeartbeats 1600000 in
theorem creset_ok (cb:Nat) (o:Obj) (w:World) (h:w.heap[cb]? = some o) (ho:CompOk o):Calls Tryz.prog 51 #[.pointer (some ⟨cb,0,none⟩)] w fun e w'=>e=.returned (.int .i64 0)∧w'.heap[cb]? = some cNew∧KeepF (fun k=>k=cb) w w':=by
 have HNO:=zh (fun V hV=>cnone_ok cb o V hV ho)
 have HNW:=zh (fun V=>tcnew_ok V)
 obtain⟨X,hX,hs,h0⟩:=ho
 have HH:=zh h
 have HB:Hid (Blk w cb 111 X):=zh (h.trans (by rw[hX]))
 obtain⟨N,hN⟩:∃N,N=zcC.setIfInBounds 0 (.bool true):=⟨_,rfl⟩
 have HN:=zh hN
 have HNS:Hid (N.size=226):=zh (by rw[hN,Array.size_setIfInBounds,zcC_size])
 have HSZ:Hid ((Tryz.prog.info? 111).map (·.size)=some N.size):=zh (by rw[HNS.out];exact sizeComp)
 have HXN:Hid (X.size=N.size):=zh (by rw[HNS.out,hs])
 have HO:Hid (N.all (·.oneCell')=true):=zh (by rw[hN];exact comp_one)
 have HCN:Hid (cNew=.cells N 111 (0,0)):=zh (by rw[hN];rfl)
 have HU:=zh Tryz.underlying111
 clear h hX h0 hs hN
 go_enter Tryz.func51,Tryz.ntmps51
 go_upto_region 3 with (go_at_call 63;refine(HNO.out _ HH.out).mono ?_;rintro e w1 ⟨rfl,rfl⟩)
 go_upto_region 4 with (first
  | (go_at_call 21;refine(HNW.out _).mono ?_;rintro e w1 ⟨rfl,hA⟩;have WA:=zh hA.symm;have HNB:Hid (Blk w1 w.heap.size 111 N):=zh (by rw[←hA,HCN.out];exact Blk.new _ _ _);have HB1:Hid (Blk w1 cb 111 X):=zh (by rw[←hA];exact HB.out.alloc _);clear hA)
  | (refine wpList_load_row rfl _ _ rfl w.heap.size rfl 111 N (0,0) _ HNB.out HU.out rfl HSZ.out ?_)
  | (refine wpList_store_row rfl _ _ _ rfl cb N rfl rfl 111 X HB1.out HSZ.out HXN.out HO.out ?_))
 try simp only[Act.put]
 refine wp_let (fun V=>V.heap[cb]? = some cNew∧KeepF (fun k=>k=cb) w V) ⟨by rw[HCN.out];exact setRow_heap _ _ _ N 111 (0,0) HB1.out,keepF_row (F:=fun k=>k=cb) (by rw[WA.out];exact KeepF.refl.alloc _) rfl _⟩ ?_
 rintro V ⟨v1,v2⟩
 have V1:=zh v1
 have V2:=zh v2
 clear v1 v2
 go_wp2
 go_ret
 exact⟨rfl,V1.out,V2.out⟩
end Go.Proofs.YtjanmleoomoedaaGreat
namespace Go.Proofs.YtjanmleoomoedaaGreat
open Go.RowKit
set_option linter.unusedVariables false
attribute [local go_sem ↓] Go.wp_at_zero Go.wp_at_succ
def Cfg.keys (C:Cfg) (f c:Nat→Int):Cfg:={ C with key:=f,code:=c }
theorem tArr_keys (C:Cfg) (f c:Nat→Int) (made:Bool) (now next:Int) (q p:Value) (ub cb:Nat):tsAll (tsAll (tArr C.arr made now next q p ub cb) 2 (kArr f).toList) 18 (kArr c).toList=tArr (C.keys f c).arr made now next q p ub cb:=by
 have l1:(kArr f).toList.length=16:=rfl
 have l2:(kArr c).toList.length=16:=rfl
 have hs:=tArr_size (made:=made) (now:=now) (next:=next) (q:=q) (p:=p) (ub:=ub) (cb:=cb) C.arr_size
 apply Array.ext_getElem?
 intro j
 by_cases h1:18≤j∧j < 34
 ·have:=tsAll_in (kArr c).toList 18 (tsAll (tArr C.arr made now next q p ub cb) 2 (kArr f).toList) (j-18) (by omega) (by rw[tsAll_size,hs];omega)
  rw[show 18+(j-18)=j by omega]at this
  rw[this,Array.getElem?_toList,kArr_at c _ (by omega),tArr_low (C.keys f c).arr_size (by omega),Cfg.arr_at _ (by omega)]
  unfold Cfg.cell
  rw[if_neg (by omega),if_neg (by omega),if_neg (by omega),if_pos (by omega)]
  rfl
 ·rw[tsAll_out _ _ _ _ (by omega)]
  by_cases h2:2≤j∧j < 18
  ·have:=tsAll_in (kArr f).toList 2 (tArr C.arr made now next q p ub cb) (j-2) (by omega) (by rw[hs];omega)
   rw[show 2+(j-2)=j by omega]at this
   rw[this,Array.getElem?_toList,kArr_at f _ (by omega),tArr_low (C.keys f c).arr_size (by omega),Cfg.arr_at _ (by omega)]
   unfold Cfg.cell
   rw[if_neg (by omega),if_neg (by omega),if_pos (by omega)]
   rfl
  ·rw[tsAll_out _ _ _ _ (by omega)]
   by_cases h3:j < 39
   ·rw[tArr_low C.arr_size h3,tArr_low (C.keys f c).arr_size h3,C.arr_at h3,Cfg.arr_at _ h3]
    unfold Cfg.cell Cfg.keys
    by_cases h4:j < 18
    ·have:j=0∨j=1:=by omega
     rcases this with rfl | rfl<;>rfl
    ·have:j=34∨j=35∨j=36∨j=37∨j=38:=by omega
     rcases this with rfl | rfl | rfl | rfl | rfl<;>rfl
   ·by_cases h4:j < 46
    ·have:=tArr_high (made:=made) (now:=now) (next:=next) (q:=q) (p:=p) (ub:=ub) (cb:=cb) C.arr_size (j-39)
     have h5:=tArr_high (made:=made) (now:=now) (next:=next) (q:=q) (p:=p) (ub:=ub) (cb:=cb) (C.keys f c).arr_size (j-39)
     rw[show 39+(j-39)=j by omega]at this h5
     rw[this,h5]
    ·rw[Array.getElem?_eq_none (by omega),Array.getElem?_eq_none (by rw[tArr_size (C.keys f c).arr_size];omega)]
section
variable {w w1:World} {g:Nat} {s:TS} {W R:Nat→Prop} {qA:Option Addr} {qc:Nat} {lq:List WE} {pA:Option Addr} {pc:Nat} {lp:List PE} {ub cb:Nat}
theorem TxM.setUsed (h:TxM w g s W R qA qc lq pA pc lp ub cb) (hk:KeepF (fun k=>k=ub) w w1) {L:List (Array Value)} (hu:UK w1 ub L):TxM w1 g { s with used:=L } W R qA qc lq pA pc lp ub cb:=by
 have pk:∀{A:Option Addr} {n c:Nat} {z:Nat→Int},Pkt w R A n c z→Pkt w1 R A n c z:=fun hp=>hp.keep hk (fun k e hr=>h.dis k (by rw[e];exact h.wu) hr)
 exact⟨hk.blk h.blk h.gu,h.qv,h.pv,h.q.keepF hk (fun a e=>h.qu a e),h.p.keepF hk (fun a e=>h.pu a e),hu,(hk.block cb (h.win _ h.wc) h.ku).trans h.k,
  fun e he=>pk (h.qe e he),fun e he=>pk (h.pe e he),h.pr,h.wg,h.wu,h.wc,h.wq,h.wp,h.kg,h.ku,h.kq,h.kp,h.dis,
  fun k hw=>Nat.lt_of_lt_of_le (h.win k hw) hk.size,fun k hw=>Nat.lt_of_lt_of_le (h.rin k hw) hk.size,h.now0,h.next0⟩
theorem TxM.setCfg (h:TxM w g s W R qA qc lq pA pc lp ub cb) (hk:KeepF (fun k=>k=g) w w1) {C:Cfg} (hb:Blk w1 g 66 (tArr C.arr true s.now s.next (.slice qA lq.length qc) (.slice pA lp.length pc) ub cb)):TxM w1 g { s with C:=C } W R qA qc lq pA pc lp ub cb:=by
 have pk:∀{A:Option Addr} {n c:Nat} {z:Nat→Int},Pkt w R A n c z→Pkt w1 R A n c z:=fun hp=>hp.keep hk (fun k e hr=>h.dis k (by rw[e];exact h.wg) hr)
 exact⟨hb,h.qv,h.pv,h.q.keepF hk (fun a e h2=>h.gq a e h2.symm),h.p.keepF hk (fun a e h2=>h.gp a e h2.symm),h.u.keep (hk.block ub h.u.lt (fun e=>h.gu e.symm)),(hk.block cb (h.win _ h.wc) h.kg).trans h.k,
  fun e he=>pk (h.qe e he),fun e he=>pk (h.pe e he),h.pr,h.wg,h.wu,h.wc,h.wq,h.wp,h.kg,h.ku,h.kq,h.kp,h.dis,
  fun k hw=>Nat.lt_of_lt_of_le (h.win k hw) hk.size,fun k hw=>Nat.lt_of_lt_of_le (h.rin k hw) hk.size,h.now0,h.next0⟩
theorem TxM.setComp (h:TxM w g s W R qA qc lq pA pc lp ub cb) (hk:KeepF (fun k=>k=cb) w w1) {o:Obj} (ho:w1.heap[cb]? = some o):TxM w1 g { s with comp:=o } W R qA qc lq pA pc lp ub cb:=by
 have pk:∀{A:Option Addr} {n c:Nat} {z:Nat→Int},Pkt w R A n c z→Pkt w1 R A n c z:=fun hp=>hp.keep hk (fun k e hr=>h.dis k (by rw[e];exact h.wc) hr)
 exact⟨hk.blk h.blk (fun e=>h.kg e.symm),h.qv,h.pv,h.q.keepF hk (fun a e h2=>h.kq a e h2.symm),h.p.keepF hk (fun a e h2=>h.kp a e h2.symm),h.u.keep (hk.block ub h.u.lt (fun e=>h.ku e.symm)),ho,
  fun e he=>pk (h.qe e he),fun e he=>pk (h.pe e he),h.pr,h.wg,h.wu,h.wc,h.wq,h.wp,h.kg,h.ku,h.kq,h.kp,h.dis,
  fun k hw=>Nat.lt_of_lt_of_le (h.win k hw) hk.size,fun k hw=>Nat.lt_of_lt_of_le (h.rin k hw) hk.size,h.now0,h.next0⟩
end
def PV.again (p:PV):PV:={ p with rep:=true }
def PE.again (e:PE):PE:={ e with v:=e.v.again }
def againK (lp:List PE) (k:Nat):List PE:=(lp.take k).map PE.again++lp.drop k
theorem againK_len (lp:List PE) (k:Nat):(againK lp k).length=lp.length:=by
 unfold againK
 rw[List.length_append,List.length_map,List.length_take,List.length_drop]
 omega
theorem againK_zero (lp:List PE):againK lp 0=lp:=by simp[againK]
theorem againK_all (lp:List PE):againK lp lp.length=lp.map PE.again:=by simp[againK]
theorem againK_set (lp:List PE) (k:Nat) (e:PE) (h:lp[k]? = some e):(againK lp k).set k e.again=againK lp (k+1):=by
 have hk:k < lp.length:=(List.getElem?_eq_some_iff.1 h).1
 have he:lp[k] = e:=by have:=List.getElem?_eq_getElem hk;rw[h]at this;exact(Option.some.inj this).symm
 unfold againK
 rw[List.set_append_right _ _ (by rw[List.length_map,List.length_take];omega)]
 rw[show k-((lp.take k).map PE.again).length=0 by rw[List.length_map,List.length_take];omega]
 rw[List.drop_eq_getElem_cons hk,List.set_cons_zero,List.take_add_one,h,List.map_append]
 simp
theorem againK_at (lp:List PE) (k:Nat) (e:PE) (h:lp[k]? = some e):(againK lp k)[k]? = some e:=by
 have hk:k < lp.length:=(List.getElem?_eq_some_iff.1 h).1
 unfold againK
 rw[List.getElem?_append_right (by rw[List.length_map,List.length_take];omega),show k-((lp.take k).map PE.again).length=0 by rw[List.length_map,List.length_take];omega,List.getElem?_drop]
 exact h
theorem rep_setT (lp:List PE) (i:Nat) (e:PE) (h:lp[i]? = some e):(lp.flatMap PE.cells).set (i*3+2) (.bool true)=((lp.set i e.again).flatMap PE.cells):=by
 have hi:i < lp.length:=(List.getElem?_eq_some_iff.1 h).1
 apply List.ext_getElem?
 intro j
 rw[flat_set PE.cells 3 PE.len lp i hi,List.getElem?_set]
 have hl:(lp.flatMap PE.cells).length=lp.length*3:=flat_len PE.cells 3 PE.len lp
 by_cases hj:i*3≤j∧j < i*3+3
 ·rw[if_pos hj]
  by_cases h2:i*3+2=j
  ·rw[if_pos h2,if_pos (by rw[hl];omega),←h2,show i*3+2-i*3=2 by omega]
   rfl
  ·rw[if_neg h2]
   have:=flat_at PE.cells 3 PE.len lp i (j-i*3) e h (by omega)
   rw[show i*3+(j-i*3)=j by omega]at this
   rw[this]
   rcases (by omega:j-i*3=0∨j-i*3=1)with e0 | e0<;>rw[e0]<;>rfl
 ·rw[if_neg hj,if_neg (by omega)]
def TS.rekeyed (s:TS) (f c:Nat→Int):TS:={ s with C:=s.C.keys f c,used:=s.used++[kArr f],comp:=cNew,P:=s.P.map PV.again }
theorem again_v (lp:List PE):(lp.map PE.again).map (·.v)=(lp.map (·.v)).map PV.again:=by
 rw[List.map_map,List.map_map]
 rfl
theorem blk_there {w:World} {g:Nat} {t:TypeId} {cs:Array Value} (h:Blk w g t cs) (o n:Nat) (hn:o+n≤cs.size):w.there g o n:=fun j hj=>⟨by rw[h.cell,Array.getElem?_eq_getElem (by omega)];rfl,h.frozen _⟩
theorem k_size (f:Nat→Int):(Tryz.prog.info? 23).map (·.size)=some (kArr f).toList.length:=by kernel_rfl
theorem k_one (f:Nat→Int):(kArr f).all (·.oneCell')=true:=by kernel_rfl
set_option maxRecDepth 100000 in
set_option maxHeartbeats 1600000 in
theorem trekey_used (g:Nat) (s:TS) (W R:Nat→Prop) (w:World) (h:TxI w g s W R) (U:List (Nat→Int)) (hU:s.used=U.map kArr) (f c:Nat→Int) (hno:hasKey f U=true) :
  Calls Tryz.prog 29 #[.pointer (some ⟨g,0,none⟩),.agg (kArr f),.agg (kArr c)] w fun e w'=>e=.returned (.int .i64 461)∧Below w.heap.size w w':=by
 have HNO:=zh (fun(V:World) (hb:Below w.heap.size w V)=>tmade_ok g s W R V (h.below hb))
 obtain⟨qA,qc,lq,pA,pc,lp,ub,cb,hT⟩:=h
 have HT:=zh hT
 have HLK:=zh (fun(V:World) (hb:Below w.heap.size w V)=>k_lookup V ub U f (by rw[←hU];exact(hT.below hb).u))
 have HSK:=zh (k_size f)
 have HSC:=zh (k_size c)
 have HOK:=zh (k_one f)
 have HOC:=zh (k_one c)
 have HUK:=zh Tryz.underlying23
 obtain⟨KF,hKF⟩:∃KF,KF=kArr f:=⟨_,rfl⟩
 obtain⟨KC,hKC⟩:∃KC,KC=kArr c:=⟨_,rfl⟩
 have HKF:=zh hKF
 have HKC:=zh hKC
 rw[←hKF]at HLK HSK HOK ⊢
 rw[←hKC]at HSC HOC ⊢
 rw[hno]at HLK
 clear hT hKF hKC hU hno
 go_enter Tryz.func29,Tryz.ntmps29
 go_upto_region 1 with (fail)
 obtain⟨kb,hkb⟩:∃kb,kb=w.heap.size:=⟨_,rfl⟩
 have HKB:=zh hkb
 refine wp_let (fun V=>Blk V kb 23 KF∧Blk V (kb+1) 23 KC∧Below w.heap.size w V) ⟨by rw[hkb];exact(blk_atZ _ _ _ _ rfl).alloc _,by rw[hkb];exact blk_atZ _ _ _ _ (by simp),((Below.refl _ w).alloc (Nat.le_refl _) _).alloc (by simp) _⟩ ?_
 rintro W1 ⟨b1,b2,b3⟩
 have B1:=zh b1
 have B2:=zh b2
 have B3:=zh b3
 rw[←hkb]
 clear b1 b2 b3 hkb
 go_upto_region 3 with (go_at_call 43;refine(HNO.out _ B3.out).mono ?_;rintro e w3 ⟨rfl,rfl⟩)
 have HKR:=zh (show ∀W',Below W1.heap.size W1 W'→W'.rangeAt kb 0 KF.toList from fun W' hW=>(B1.out.below hW B1.out.lt).range _ (by simp))
 have HC44:=zh (show ∀W',Below W1.heap.size W1 W'→W'.cell? ⟨g,44,none⟩=some (.map (some ub))from fun W' hW=>(HT.out.below (B3.out.trans (hW.mono B3.out.size))).cu)
 have HL2:=zh (show ∀W',Below W1.heap.size W1 W'→(Instr.lookup 60 (.map (some ub)) (.agg KF) false).run Tryz.prog W'=.ok (.bool true) W' from fun W' hW=>HLK.out W' (B3.out.trans (hW.mono B3.out.size)))
 refine wp_region_held_drew (S:=fun w'=>Below W1.heap.size W1 w') (by kernel_rfl) ((Below.refl _ W1).drew) (fun hHeld=>?_)
 obtain⟨w0,hw0⟩:∃w0,w0=W1.drew:=⟨_,rfl⟩
 rw[←hw0]
 rw[←hw0]at hHeld
 clear hw0
 refine tkH (i:=0) (oi:=⟨some 12,_,_,_,_,_⟩) (v:=.pointer (some ⟨g,0,none⟩)) rfl (Or.inl ⟨by rfl,fun W hW=>(by rfl)⟩) (by assumption) ?_
 refine tkH (i:=1) (oi:=⟨some 13,_,_,_,_,_⟩) (v:=.pointer (some ⟨g,0,none⟩)) rfl (Or.inl ⟨by rfl,fun W hW=>(by go_simp)⟩) (by assumption) ?_
 refine tkH (i:=2) (oi:=⟨some 14,_,_,_,_,_⟩) (v:=.pointer (some ⟨g,44,none⟩)) rfl (Or.inl ⟨by rfl,fun W hW=>(by go_simp)⟩) (by assumption) ?_
 refine tkH (i:=3) (oi:=⟨some 15,_,_,_,_,_⟩) (v:=.map (some ub)) rfl (Or.inl ⟨by rfl,fun W hW=>(by have:=HC44.out W hW;go_simp)⟩) (by assumption) ?_
 refine' tkH (i:=4) (oi:=⟨some 16,_,_,_,_,_⟩) (v:=_) rfl (yieldsIf_load_mid (by rfl) _ _ rfl kb 0 rfl KF.toList _ (fun w h=>HKR.out w h) HUK.out rfl HSK.out) (by assumption) ?_
 refine tkH (i:=5) (oi:=⟨some 17,_,_,_,_,_⟩) (v:=.bool true) rfl (Or.inl ⟨by rfl,fun W hW=>(by have:=HL2.out W hW;go_simp)⟩) (by assumption) ?_
 refine tkH (i:=6) (oi:=⟨some 11,_,_,_,_,_⟩) (v:=.bool true) rfl (Or.inl ⟨by rfl,fun W hW=>(by rfl)⟩) (by assumption) ?_
 refine wpAnyH_done (by kernel_rfl) ?_ _
 have H2:=zh hHeld
 clear hHeld
 go_wp2
 go_ret
 exact⟨rfl,B3.out.trans (H2.out.mono B3.out.size)⟩
set_option maxRecDepth 100000 in
set_option maxHeartbeats 3200000 in
theorem trekey_new (g:Nat) (s:TS) (W R:Nat→Prop) (w:World) (h:TxI w g s W R) (U:List (Nat→Int)) (hU:s.used=U.map kArr) (hco:CompOk s.comp) (hpl:s.P.length≤1000000) (f c:Nat→Int) (hno:hasKey f U=false) :
  Calls Tryz.prog 29 #[.pointer (some ⟨g,0,none⟩),.agg (kArr f),.agg (kArr c)] w fun e w'=>e=.returned (.int .i64 0)∧TxO W R w w' g (s.rekeyed f c):=by
 have HNO:=zh (fun(V:World) (hb:Below w.heap.size w V)=>tmade_ok g s W R V (h.below hb))
 obtain⟨qA,qc,lq,pA,pc,lp,ub,cb,hT⟩:=h
 have HT:=zh hT
 have HLK:=zh (fun(V:World) (hb:Below w.heap.size w V)=>k_lookup V ub U f (by rw[←hU];exact(hT.below hb).u))
 have HSK:=zh (k_size f)
 have HSC:=zh (k_size c)
 have HOK:=zh (k_one f)
 have HOC:=zh (k_one c)
 have HUK:=zh Tryz.underlying23
 have HPUT:=zh (fun(V:World) (hb:Below w.heap.size w V)=>k_put V ub U f (by rw[←hU];exact(hT.below hb).u) hno)
 have HU2:=zh (show(U++[f]).map kArr=s.used++[kArr f] by rw[hU,List.map_append];rfl)
 have HCO:=zh hco
 have HPL:=zh hpl
 clear hco hpl
 obtain⟨KF,hKF⟩:∃KF,KF=kArr f:=⟨_,rfl⟩
 obtain⟨KC,hKC⟩:∃KC,KC=kArr c:=⟨_,rfl⟩
 have HKF:=zh hKF
 have HKC:=zh hKC
 rw[←hKF]at HLK HSK HOK ⊢
 rw[←hKC]at HSC HOC ⊢
 rw[hno]at HLK
 rw[←hKF]at HPUT HU2
 clear hT hKF hKC hU hno
 go_enter Tryz.func29,Tryz.ntmps29
 go_upto_region 1 with (fail)
 obtain⟨kb,hkb⟩:∃kb,kb=w.heap.size:=⟨_,rfl⟩
 have HKB:=zh hkb
 refine wp_let (fun V=>Blk V kb 23 KF∧Blk V (kb+1) 23 KC∧Below w.heap.size w V) ⟨by rw[hkb];exact(blk_atZ _ _ _ _ rfl).alloc _,by rw[hkb];exact blk_atZ _ _ _ _ (by simp),((Below.refl _ w).alloc (Nat.le_refl _) _).alloc (by simp) _⟩ ?_
 rintro W1 ⟨b1,b2,b3⟩
 have B1:=zh b1
 have B2:=zh b2
 have B3:=zh b3
 rw[←hkb]
 clear b1 b2 b3 hkb
 go_upto_region 3 with (go_at_call 43;refine(HNO.out _ B3.out).mono ?_;rintro e w3 ⟨rfl,rfl⟩)
 have HKR:=zh (show ∀W',Below W1.heap.size W1 W'→W'.rangeAt kb 0 KF.toList from fun W' hW=>(B1.out.below hW B1.out.lt).range _ (by simp))
 have HC44:=zh (show ∀W',Below W1.heap.size W1 W'→W'.cell? ⟨g,44,none⟩=some (.map (some ub))from fun W' hW=>(HT.out.below (B3.out.trans (hW.mono B3.out.size))).cu)
 have HL2:=zh (show ∀W',Below W1.heap.size W1 W'→(Instr.lookup 60 (.map (some ub)) (.agg KF) false).run Tryz.prog W'=.ok (.bool false) W' from fun W' hW=>HLK.out W' (B3.out.trans (hW.mono B3.out.size)))
 refine wp_region_held_drew (S:=fun w'=>Below W1.heap.size W1 w') (by kernel_rfl) ((Below.refl _ W1).drew) (fun hHeld=>?_)
 obtain⟨w0,hw0⟩:∃w0,w0=W1.drew:=⟨_,rfl⟩
 rw[←hw0]
 rw[←hw0]at hHeld
 clear hw0
 refine tkH (i:=0) (oi:=⟨some 12,_,_,_,_,_⟩) (v:=.pointer (some ⟨g,0,none⟩)) rfl (Or.inl ⟨by rfl,fun W hW=>(by rfl)⟩) (by assumption) ?_
 refine tkH (i:=1) (oi:=⟨some 13,_,_,_,_,_⟩) (v:=.pointer (some ⟨g,0,none⟩)) rfl (Or.inl ⟨by rfl,fun W hW=>(by go_simp)⟩) (by assumption) ?_
 refine tkH (i:=2) (oi:=⟨some 14,_,_,_,_,_⟩) (v:=.pointer (some ⟨g,44,none⟩)) rfl (Or.inl ⟨by rfl,fun W hW=>(by go_simp)⟩) (by assumption) ?_
 refine tkH (i:=3) (oi:=⟨some 15,_,_,_,_,_⟩) (v:=.map (some ub)) rfl (Or.inl ⟨by rfl,fun W hW=>(by have:=HC44.out W hW;go_simp)⟩) (by assumption) ?_
 refine' tkH (i:=4) (oi:=⟨some 16,_,_,_,_,_⟩) (v:=_) rfl (yieldsIf_load_mid (by rfl) _ _ rfl kb 0 rfl KF.toList _ (fun w h=>HKR.out w h) HUK.out rfl HSK.out) (by assumption) ?_
 refine tkH (i:=5) (oi:=⟨some 17,_,_,_,_,_⟩) (v:=.bool false) rfl (Or.inl ⟨by rfl,fun W hW=>(by have:=HL2.out W hW;go_simp)⟩) (by assumption) ?_
 refine tkH (i:=6) (oi:=⟨some 11,_,_,_,_,_⟩) (v:=.bool false) rfl (Or.inl ⟨by rfl,fun W hW=>(by rfl)⟩) (by assumption) ?_
 refine wpAnyH_done (by kernel_rfl) ?_ _
 have H2:=zh hHeld
 clear hHeld
 go_upto_region 5 with (fail)
 have H3:=zh (B3.out.trans (H2.out.mono B3.out.size))
 have T3:=zh (HT.out.below H3.out)
 have D1:=zh (B1.out.below H2.out B1.out.lt)
 have D2:=zh (B2.out.below H2.out B2.out.lt)
 obtain⟨W5,hW5⟩:∃W5,W5=w0:=⟨_,rfl⟩
 rw[←hW5]at H3 T3 D1 D2 ⊢
 clear hW5
 have HKR2:=zh (show ∀W',Below W5.heap.size W5 W'→W'.rangeAt kb 0 KF.toList from fun W' hW=>(D1.out.below hW D1.out.lt).range _ (by simp))
 have HD44:=zh (show ∀W',Below W5.heap.size W5 W'→W'.cell? ⟨g,44,none⟩=some (.map (some ub))from fun W' hW=>(T3.out.below hW).cu)
 refine wp_region_held_drew (S:=fun w'=>KeepF (fun k=>k=ub) W5 w') (by kernel_rfl) (KeepF.refl.drew) (fun hHeld=>?_)
 obtain⟨w5,hw5⟩:∃w5,w5=W5.drew:=⟨_,rfl⟩
 have hb5:Below W5.heap.size W5 w5:=by rw[hw5];exact(Below.refl _ _).drew
 have HE:=zh (show ∀W',KeepF (fun k=>k=ub) W5 W'→W'.cell? ⟨g,44,none⟩=some (.map (some ub))from fun W' hW=>(hW.cell (p:=⟨g,44,none⟩) T3.out.blk.lt T3.out.gu).trans T3.out.cu)
 have HER:=zh (show ∀W',KeepF (fun k=>k=ub) W5 W'→W'.rangeAt kb 0 KF.toList from fun W' hW=>(hW.blk D1.out (fun e=>by have:=HT.out.u.lt;have:=HKB.out;omega)).range _ (by simp))
 rw[←hw5]
 rw[←hw5]at hHeld
 obtain⟨X,hput,hUK,hKX⟩:=HPUT.out w5 (H3.out.trans (hb5.mono H3.out.size))
 have hTX:=(T3.out.below hb5).setUsed hKX hUK
 rw[HU2.out]at hTX
 clear hw5
 refine tkH (i:=0) (oi:=⟨some 18,_,_,_,_,_⟩) (v:=.pointer (some ⟨g,0,none⟩)) rfl (Or.inl ⟨by rfl,fun W hW=>(by rfl)⟩) (by assumption) ?_
 refine tkH (i:=1) (oi:=⟨some 19,_,_,_,_,_⟩) (v:=.pointer (some ⟨g,0,none⟩)) rfl (Or.inl ⟨by rfl,fun W hW=>(by go_simp)⟩) (by assumption) ?_
 refine tkH (i:=2) (oi:=⟨some 20,_,_,_,_,_⟩) (v:=.pointer (some ⟨g,44,none⟩)) rfl (Or.inl ⟨by rfl,fun W hW=>(by go_simp)⟩) (by assumption) ?_
 refine tkH (i:=3) (oi:=⟨some 21,_,_,_,_,_⟩) (v:=.map (some ub)) rfl (Or.inl ⟨by rfl,fun W hW=>(by have:=HE.out W hW;go_simp)⟩) (by assumption) ?_
 refine' tkH (i:=4) (oi:=⟨some 22,_,_,_,_,_⟩) (v:=_) rfl (yieldsIf_load_mid (by rfl) _ _ rfl kb 0 rfl KF.toList _ (fun w h=>HER.out w h) HUK.out rfl HSK.out) (by assumption) ?_
 refine wpAnyH_ready (rs:=[5]) (by kernel_rfl) (by simp) ?_
 refine AllReadyH.cons (o:=⟨none,_,_,_,_,_⟩) rfl (fun K hK=>?_) AllReadyH.nil
 rw[if_pos (by rfl)]
 go_simp
 refine hK.out _ _ (hHeld.trans hKX (fun k _ hk=>hk)) (fun hHeld=>?_)
 clear hK K hput
 try simp only[Act.put]
 refine wpAnyH_done (by kernel_rfl) ?_ _
 have HTX:=zh hTX
 have H5:=zh (hHeld)
 have XD1:=zh (hHeld.blk D1.out (fun e=>by have:=HT.out.u.lt;have:=HKB.out;omega))
 have XD2:=zh (hHeld.blk D2.out (fun e=>by have:=HT.out.u.lt;have:=HKB.out;omega))
 clear hTX hKX hUK hHeld
 go_upto_region 6 with (fail)
 have HGB:=zh (show g < kb from by have:=HT.out.blk.lt;have:=HKB.out;omega)
 have HF1:=zh (show ∀W',KeepF (fun k=>k=g) X W'→W'.rangeAt kb 0 KF.toList from fun W' hW=>(hW.blk XD1.out (fun e=>by have:=HGB.out;omega)).range _ (by simp))
 have HF2:=zh (show ∀W',KeepF (fun k=>k=g) X W'→W'.rangeAt (kb+1) 0 KC.toList from fun W' hW=>(hW.blk XD2.out (fun e=>by have:=HGB.out;omega)).range _ (by simp))
 have HSKF:Hid ((Tryz.prog.info? 23).map (·.size)=some KF.size):=zh (by rw[HKF.out];kernel_rfl)
 have HSKC:Hid ((Tryz.prog.info? 23).map (·.size)=some KC.size):=zh (by rw[HKC.out];kernel_rfl)
 refine wp_region_held_drew (S:=fun w'=>KeepF (fun k=>k=g) X w') (by kernel_rfl) (KeepF.refl.drew) (fun hHeld=>?_)
 obtain⟨w6,hw6⟩:∃w6,w6=X.drew:=⟨_,rfl⟩
 have hb6:Below X.heap.size X w6:=by rw[hw6];exact(Below.refl _ _).drew
 rw[←hw6]
 rw[←hw6]at hHeld
 have hT6:=HTX.out.below hb6
 clear hw6 hb6
 refine tkH (i:=0) (oi:=⟨some 23,_,_,_,_,_⟩) (v:=.pointer (some ⟨g,0,none⟩)) rfl (Or.inl ⟨by rfl,fun W hW=>(by rfl)⟩) (by assumption) ?_
 refine tkH (i:=1) (oi:=⟨some 24,_,_,_,_,_⟩) (v:=.pointer (some ⟨g,0,none⟩)) rfl (Or.inl ⟨by rfl,fun W hW=>(by rfl)⟩) (by assumption) ?_
 refine' tkH (i:=2) (oi:=⟨some 25,_,_,_,_,_⟩) (v:=_) rfl (yieldsIf_load_mid (by rfl) _ _ rfl kb 0 rfl KF.toList _ (fun w h=>HF1.out w h) HUK.out rfl HSK.out) (by assumption) ?_
 refine' tkH (i:=3) (oi:=⟨some 26,_,_,_,_,_⟩) (v:=_) rfl (yieldsIf_load_mid (by rfl) _ _ rfl (kb+1) 0 rfl KC.toList _ (fun w h=>HF2.out w h) HUK.out rfl HSC.out) (by assumption) ?_
 refine tkH (i:=4) (oi:=⟨some 27,_,_,_,_,_⟩) (v:=.pointer (some ⟨g,0,none⟩)) rfl (Or.inl ⟨by rfl,fun W hW=>(by go_simp)⟩) (by assumption) ?_
 refine tkH (i:=5) (oi:=⟨some 28,_,_,_,_,_⟩) (v:=.pointer (some ⟨g,0,none⟩)) rfl (Or.inl ⟨by rfl,fun W hW=>(by go_simp)⟩) (by assumption) ?_
 refine tkH (i:=6) (oi:=⟨some 29,_,_,_,_,_⟩) (v:=.pointer (some ⟨g,2,none⟩)) rfl (Or.inl ⟨by rfl,fun W hW=>(by go_simp)⟩) (by assumption) ?_
 refine wpAnyH_ready (rs:=[7]) (by kernel_rfl) (by simp) ?_
 refine AllReadyH.cons (o:=⟨none,_,_,_,_,_⟩) rfl (fun K hK=>?_) AllReadyH.nil
 rw[if_pos (by rfl)]
 refine wp_store_mid _ _ _ rfl g 2 KF rfl rfl (blk_there hT6.blk 2 KF.size (by rw[HKF.out,tArr_size s.C.arr_size];show 2+16≤46;decide)) HSKF.out HOK.out ?_
 have hk1:KeepF (fun k=>k=g) X (w6.setCells g 2 KF.toList):=hHeld.trans (ts_keep (F:=fun k=>k=g) rfl _ _ _) (fun _ _ h=>h)
 have hB1:=ts_setCells KF.toList 2 w6 _ hT6.blk
 obtain⟨v1,hv1⟩:∃v1,v1=w6.setCells g 2 KF.toList:=⟨_,rfl⟩
 rw[←hv1]at hk1 hB1 ⊢
 refine hK.out _ _ hk1 (fun hHeld=>?_)
 clear hK K hk1 hv1 hT6
 try simp only[Act.put]
 refine tkH (i:=8) (oi:=⟨some 30,_,_,_,_,_⟩) (v:=.pointer (some ⟨g,0,none⟩)) rfl (Or.inl ⟨by rfl,fun W hW=>(by go_simp)⟩) (by assumption) ?_
 refine tkH (i:=9) (oi:=⟨some 31,_,_,_,_,_⟩) (v:=.pointer (some ⟨g,0,none⟩)) rfl (Or.inl ⟨by rfl,fun W hW=>(by go_simp)⟩) (by assumption) ?_
 refine tkH (i:=10) (oi:=⟨some 32,_,_,_,_,_⟩) (v:=.pointer (some ⟨g,18,none⟩)) rfl (Or.inl ⟨by rfl,fun W hW=>(by go_simp)⟩) (by assumption) ?_
 refine wpAnyH_ready (rs:=[11]) (by kernel_rfl) (by simp) ?_
 refine AllReadyH.cons (o:=⟨none,_,_,_,_,_⟩) rfl (fun K hK=>?_) AllReadyH.nil
 rw[if_pos (by rfl)]
 refine wp_store_mid _ _ _ rfl g 18 KC rfl rfl (blk_there hB1 18 KC.size (by rw[HKC.out,tsAll_size,tArr_size s.C.arr_size];show 18+16≤46;decide)) HSKC.out HOC.out ?_
 have hk2:KeepF (fun k=>k=g) X (v1.setCells g 18 KC.toList):=hHeld.trans (ts_keep (F:=fun k=>k=g) rfl _ _ _) (fun _ _ h=>h)
 have hB2:=ts_setCells KC.toList 18 v1 _ hB1
 obtain⟨v2,hv2⟩:∃v2,v2=v1.setCells g 18 KC.toList:=⟨_,rfl⟩
 rw[←hv2]at hk2 hB2 ⊢
 refine hK.out _ _ hk2 (fun hHeld=>?_)
 clear hK K hk2 hv2
 try simp only[Act.put]
 refine wpAnyH_done (by kernel_rfl) ?_ _
 rw[HKF.out,HKC.out,tArr_keys]at hB2
 have T6:=zh (HTX.out.setCfg hHeld hB2)
 have H6:=zh hHeld
 clear hHeld hB1 hB2
 have cc:=T6.out.cc
 go_upto_region 8 with (go_at_call 51;refine(creset_ok cb s.comp _ T6.out.k HCO.out).mono ?_;rintro e v3 ⟨rfl,hc,hk⟩;have T7:=zh (T6.out.setComp hk hc);have H7:=zh hk;clear hc hk)
 clear cc
 obtain⟨m,hm⟩:∃m,m=lp.length:=⟨_,rfl⟩
 have HM:=zh hm
 have HPV:=zh T7.out.pv
 have cp:=T7.out.cp
 rw[←hm]at cp
 have m9:(m:Int)≤1000000:=by have:=HPL.out;rw[←HT.out.pv,List.length_map]at this;omega
 have HKW:=zh (show KeepF W w v3 from (((KeepF.of_below (F:=W) H3.out).trans (H5.out.mono (G:=W) (fun k e=>by rw[e];exact HT.out.wu)) (fun _ _ h=>h)).trans (H6.out.mono (G:=W) (fun k e=>by rw[e];exact HT.out.wg)) (fun _ _ h=>h)).trans (H7.out.mono (G:=W) (fun k e=>by rw[e];exact HT.out.wc)) (fun _ _ h=>h))
 obtain⟨s7,hs7⟩:∃s7:TS,s7={ s with C:=s.C.keys f c,used:=s.used++[KF],comp:=cNew }:=⟨_,rfl⟩
 have HS7:=zh hs7
 have T8:=zh (show TxM v3 g s7 W R qA qc lq pA pc lp ub cb from by rw[hs7];exact T7.out)
 clear hs7 T7
 clear hm
 go_wp2
 go_loopw [7,43] (fun v7 v43 wr=>∃k:Nat,k≤m∧v43=.int .i64 k∧TxM wr g { s7 with P:=(againK lp k).map (·.v) } W R qA qc lq pA pc (againK lp k) ub cb∧KeepF W w wr) (fun _ v43 _=>m-(intOf v43).toNat)
 case atStart=>exact⟨0,by omega,rfl,by rw[againK_zero,T8.out.pv];exact T8.out,HKW.out⟩
 case round=>
  obtain⟨k,hk,rfl,hT,hK⟩:=hrel
  have TR:=zh hT
  have KR:=zh hK
  clear hT hK cp
  have k0:(0:Int)≤(k:Int):=by omega
  by_cases hlt:k < m
  ·have k1:(k:Int) < (m:Int):=by omega
   have hkl:k < lp.length:=by rw[←HM.out];exact hlt
   obtain⟨e,he⟩:∃e,lp[k]? = some e:=⟨_,List.getElem?_eq_getElem hkl⟩
   have hak:=againK_at lp k e he
   obtain⟨b,o,hpA,hbl,d0,d1,d2⟩:=TR.out.pcell hak
   have cp:=TR.out.cp
   rw[againK_len,←HM.out,hpA]at cp
   have f2:=TR.out.p.frozen hpA (o+k*3+2)
   have HQ:=zh (show SL (wr.setCell ⟨b,o+k*3+2,none⟩ (.bool true)) 69 3 pA (againK lp k).length pc ((againK lp (k+1)).flatMap PE.cells)from by
    have hsl:=TR.out.p
    rw[hpA]at hsl
    have:=hsl.setOne (k*3+2) (by rw[againK_len];omega) (.bool true)
    rw[rep_setT (againK lp k) k e hak,againK_set lp k e he,←Nat.add_assoc]at this
    rw[hpA]
    exact this)
   have HKF2:=zh ((KeepF.refl (F:=fun k=>∃a,pA=some a∧k=a.block) (w:=wr)).setCell (p:=⟨b,o+k*3+2,none⟩) ⟨_,hpA,rfl⟩ (.bool true))
   have HT4:=zh (TR.out.putP (lp':=againK lp (k+1)) HKF2.out HQ.out (by rw[againK_len,againK_len]) (fun x hx=>by
    have hk:Pkt wr R x.A x.v.n x.c x.v.z:=by
     rw[←againK_set lp k e he]at hx
     rcases List.mem_or_eq_of_mem_set hx with h | h
     ·exact TR.out.pe x h
     ·subst h
      exact TR.out.pe e (List.mem_of_getElem? hak)
    exact hk.keep HKF2.out (fun j ⟨a,ha,e2⟩ hr=>TR.out.dis j (by rw[e2];exact TR.out.wp a ha) hr)) (fun x hx=>by
    rw[←againK_set lp k e he]at hx
    rcases List.mem_or_eq_of_mem_set hx with h | h
    ·exact TR.out.pr x.v (List.mem_map_of_mem h)
    ·subst h
     exact TR.out.pr e.v (List.mem_map_of_mem (List.mem_of_getElem? hak))))
   have HK4:=zh (KR.out.trans (HKF2.out.mono (G:=W) (fun j ⟨a,ha,e2⟩=>by rw[e2];exact TR.out.wp a ha)) (fun _ _ h=>h))
   subst hpA
   clear hak he d0 d1
   go_wp2
   go_roundw
   case rel=>exact⟨k+1,by omega,by go_num,HT4.out,HK4.out⟩
   case measure=>simp[intOf];omega
  ·obtain rfl:k=m:=by omega
   go_wp2
   go_ret
   have e1:(againK lp k).map (·.v)=s.P.map PV.again:=by rw[HM.out,againK_all,again_v,HT.out.pv]
   have e2:({ s7 with P:=(againK lp k).map (·.v) }:TS)=s.rekeyed f c:=by rw[HS7.out,e1,HKF.out];rfl
   rw[←e2]
   exact⟨rfl,W,R,⟨_,_,_,_,_,_,_,_,TR.out⟩,fun _ h=>.inl h,fun _ h=>.inl h,KR.out⟩
end Go.Proofs.YtjanmleoomoedaaGreat
namespace Go.Proofs.YtjanmleoomoedaaGreat
open Go.RowKit Go.ChangeShapes Go.WideShapes Go.ChangeAt
set_option linter.unusedVariables false
attribute [local go_sem ↓] Go.wp_at_zero Go.wp_at_succ
structure SV where
 kind:Int
 now:Int
 cnt:Int
 A:Option Addr
 n:Nat
 c:Nat
 z:Nat→Int
 key:Nat→Int
 code:Nat→Int
def SV.cell (s:SV) (j:Nat):Value:=if j=0 then .int .i64 s.kind else if j=1 then .int .i64 s.now else if j=2 then .int .u32 s.cnt else if j=3 then .slice s.A s.n s.c else if j < 20 then .int .u8 (s.key (j-4)) else .int .u8 (s.code (j-20))
structure SVOk (w:World) (s:SV):Prop where
 knd:-9223372036854775808≤s.kind∧s.kind≤9223372036854775807
 now:-9223372036854775808≤s.now∧s.now≤9223372036854775807
 cnt:0≤s.cnt∧s.cnt < 4294967296
 mx:s.n≤maxLen
 cap:s.n≤s.c
 byte:∀j,j < s.n→0≤s.z j∧s.z j < 256
 key:∀j,j < 16→0≤s.key j∧s.key j < 256
 code:∀j,j < 16→0≤s.code j∧s.code j < 256
 row:Row w w.heap.size s.A s.n (fun j=>.int .u8 (s.z j))
theorem SVOk.below {w w':World} {s:SV} (h:SVOk w s) (hb:Below w.heap.size w w'):SVOk w' s:=⟨h.knd,h.now,h.cnt,h.mx,h.cap,h.byte,h.key,h.code,h.row.next hb⟩
structure Steps (w:World) (A:Option Addr) (m:Nat) (S:Nat→SV):Prop where
 at_:m ≠ 0→∃lb lo,A=some ⟨lb,lo,none⟩∧lb < w.heap.size∧∀k,k < m→∀j,j < 36→w.cell? ⟨lb,lo+k*36+j,none⟩=some ((S k).cell j)
 ok:∀k,k < m→SVOk w (S k)
theorem Steps.below {w w':World} {A:Option Addr} {m:Nat} {S:Nat→SV} (h:Steps w A m S) (hb:Below w.heap.size w w'):Steps w' A m S:=
 ⟨fun hm=>by
  obtain⟨lb,lo,e,hlt,hc⟩:=h.at_ hm
  exact⟨lb,lo,e,Nat.lt_of_lt_of_le hlt hb.size,fun k hk j hj=>(hb.cell (p:=⟨lb,lo+k*36+j,none⟩) hlt).trans (hc k hk j hj)⟩,fun k hk=>(h.ok k hk).below hb⟩
section
variable {H:Type} {enc:TypeId×Value→H} {w:World} {base:Nat} {spare:Nat→Bool} {held:Bool}
theorem open_bytesR {fuel:Nat} {v:Value} {x:DataW H×List MemPlace} (h:DataW.trod enc Tryz.prog w base spare held fuel 46 [v] = some x) (hsp:∀b,spare b=true) :
  ∃a len cap zs,v=.slice a len cap∧IsRow .u8 w a len cap zs:=by
 rcases open_ints Tryz.underlying46 Tryz.underlying5 (by kernel_rfl) h with ⟨hcs,_⟩ | ⟨x,l,c,zs,hcs,_,hl,hm,hz,_,hcell,hwz⟩
 ·simp at hcs
  subst hcs
  exact⟨none,0,0,[],rfl,.inl ⟨rfl,rfl,rfl,rfl⟩⟩
 ·simp at hcs
  subst hcs
  rw[if_pos (hsp _)]at hz
  exact⟨some x,l,c,zs,rfl,.inr ⟨x,rfl,hl,hm,hz,hcell,hwz⟩⟩
theorem open_step {fuel:Nat} {cs:List Value} {x:DataW H×List MemPlace} (h:DataW.trod enc Tryz.prog w base spare held fuel 48 cs=some x) (hsp:∀b,spare b=true):∃s:SV,(∀j,j < 36→cs[j]? = some (s.cell j))∧SVOk w s:=by
 obtain⟨xs,n,_,_,hlc,hlen,hg⟩:=DataW.trod_struct Tryz.underlying48 h
 have c3:Tryz.prog.cellsOf 3 = 1:=by kernel_rfl
 have c26:Tryz.prog.cellsOf 26 = 1:=by kernel_rfl
 have c27:Tryz.prog.cellsOf 46 = 1:=by kernel_rfl
 have c16:Tryz.prog.cellsOf 23 = 16:=by kernel_rfl
 have hc36:Tryz.prog.cellsOf 48 = 36:=by kernel_rfl
 rw[hc36]at hlc
 have hx6:xs.length=6:=hlen
 have keyi:∀(i o:Nat) (k:IntKind) (ty:TypeId),Tryz.prog.underlying ty=some (.int k)→i < 6→DataW.trod enc Tryz.prog w base spare held n ty ((cs.drop o).take 1)=xs[i]?→∃a,cs[o]? = some (Value.int k a)∧(Lit.int k a).wf=true:=by
  intro i o k ty hu hi h1
  rw[List.getElem?_eq_getElem (by omega)]at h1
  obtain⟨a,e,_,hw⟩:=DataW.trod_int hu h1
  refine⟨a,?_,hw⟩
  have h2:=congrArg List.head? e
  simp[List.head?_take]at h2
  exact h2
 have keya:∀(i o:Nat),i < 6→DataW.trod enc Tryz.prog w base spare held n 23 ((cs.drop o).take 16)=xs[i]?→∃f:Nat→Int,(∀j,j < 16→cs[o+j]? = some (.int .u8 (f j)))∧∀j,j < 16→0≤f j∧f j < 256:=by
  intro i o hi h1
  rw[List.getElem?_eq_getElem (by omega)]at h1
  obtain⟨f,e,hb⟩:=open_b16 h1
  refine⟨f,fun j hj=>?_,hb⟩
  have:=e j hj
  rwa [List.getElem?_take,if_pos hj,List.getElem?_drop]at this
 have g0:DataW.trod enc Tryz.prog w base spare held n 3 ((cs.drop 0).take (Tryz.prog.cellsOf 3))=xs[0]?:=hg 0 _ rfl
 have g1:DataW.trod enc Tryz.prog w base spare held n 3 ((cs.drop 1).take (Tryz.prog.cellsOf 3))=xs[1]?:=hg 1 _ rfl
 have g2:DataW.trod enc Tryz.prog w base spare held n 26 ((cs.drop 2).take (Tryz.prog.cellsOf 26))=xs[2]?:=hg 2 _ rfl
 have g3:DataW.trod enc Tryz.prog w base spare held n 46 ((cs.drop 3).take (Tryz.prog.cellsOf 46))=xs[3]?:=hg 3 _ rfl
 have g4:DataW.trod enc Tryz.prog w base spare held n 23 ((cs.drop 4).take (Tryz.prog.cellsOf 23))=xs[4]?:=hg 4 _ rfl
 have g5:DataW.trod enc Tryz.prog w base spare held n 23 ((cs.drop 20).take (Tryz.prog.cellsOf 23))=xs[5]?:=hg 5 _ rfl
 rw[c3]at g0 g1
 rw[c26]at g2
 rw[c27]at g3
 rw[c16]at g4 g5
 obtain⟨a0,e0,w0⟩:=keyi 0 0 .i64 _ Tryz.underlying3 (by decide) g0
 obtain⟨a1,e1,w1⟩:=keyi 1 1 .i64 _ Tryz.underlying3 (by decide) g1
 obtain⟨a2,e2,w2⟩:=keyi 2 2 .u32 _ Tryz.underlying26 (by decide) g2
 obtain⟨f4,e4,r4⟩:=keya 4 4 (by decide) g4
 obtain⟨f5,e5,r5⟩:=keya 5 20 (by decide) g5
 obtain⟨v3,e3⟩:∃v,cs[3]? = some v:=⟨cs[3],List.getElem?_eq_getElem (by omega)⟩
 have h3:(cs.drop 3).take 1=[v3]:=by
  rw[List.drop_eq_getElem_cons (by omega),List.take_succ_cons,List.take_zero]
  rw[List.getElem?_eq_getElem (by omega)]at e3
  rw[Option.some.inj e3]
 rw[h3,List.getElem?_eq_getElem (by omega)]at g3
 obtain⟨A,len,cap,zs,rfl,hr⟩:=open_bytesR g3 hsp
 have b0:=bounds_i64 w0
 have b1:=bounds_i64 w1
 have b2:=bounds_u32 w2
 have hu:=isRow_u8 hr
 have hb0:-9223372036854775808≤a0∧a0≤9223372036854775807:=by omega
 have hb1:-9223372036854775808≤a1∧a1≤9223372036854775807:=by omega
 have hb2:0≤a2∧a2 < 4294967296:=by omega
 have hmx:len≤maxLen:=by rcases hr with ⟨_,h,_⟩ | ⟨_,_,h1,h2,_⟩<;>omega
 refine⟨⟨a0,a1,a2,A,len,cap,fun j=>zs.getD j 0,f4,f5⟩,fun j hj=>?_,⟨hb0,hb1,hb2,hmx,hu.1,hu.2,r4,r5,isRow_row hr⟩⟩
 unfold SV.cell
 rcases (by omega:j=0∨j=1∨j=2∨j=3∨(4≤j∧j < 20)∨(20≤j∧j < 36))with rfl | rfl | rfl | rfl | hj2 | hj2
 ·exact e0
 ·exact e1
 ·exact e2
 ·exact e3
 ·rw[if_neg (by omega),if_neg (by omega),if_neg (by omega),if_neg (by omega),if_pos (by omega)]
  have:=e4 (j-4) (by omega)
  rwa [show 4+(j-4)=j by omega]at this
 ·rw[if_neg (by omega),if_neg (by omega),if_neg (by omega),if_neg (by omega),if_neg (by omega)]
  have:=e5 (j-20) (by omega)
  rwa [show 20+(j-20)=j by omega]at this
theorem open_steps {fuel:Nat} {a:Option Addr} {len cap:Nat} {x:DataW H×List MemPlace}
  (h:DataW.trod enc Tryz.prog w base spare held fuel 31 [.slice a len cap] = some x) (hsp:∀b,spare b=true) :
  len≤maxLen∧len≤cap∧∃S,Steps w a len S:=by
 rcases Go.Deep.open_slice Tryz.underlying31 h with ⟨hcs,_⟩ | ⟨ad,l,c,m,n,D,Pl,hcs,_,hl,hm,hmm,_,hf⟩
 ·simp at hcs
  obtain⟨rfl,rfl,rfl⟩:=hcs
  exact⟨by unfold maxLen;omega,Nat.le_refl _,fun _=>⟨0,0,0,none,0,0,fun _=>0,fun _=>0,fun _=>0⟩,⟨fun h=>absurd rfl h,fun k hk=>by omega⟩⟩
 ·simp at hcs
  obtain⟨rfl,rfl,rfl⟩:=hcs
  rw[if_pos (hsp _)]at hmm
  subst hmm
  have hc36:Tryz.prog.cellsOf 48 = 36:=by kernel_rfl
  rw[hc36]at hf
  have h0:∀i,∃s:SV,i < len→(∀j,j < 36→w.cell? ((ad.add (i*36)).add j)=some (s.cell j))∧SVOk w s:=fun i=>by
   by_cases hi:i < len
   ·obtain⟨cs',h1,h2⟩:=hf i (by omega)
    obtain⟨s,hs,hok⟩:=open_step h2 hsp
    refine⟨s,fun _=>⟨fun j hj=>?_,hok⟩⟩
    obtain⟨_,hlen,hcell⟩:=World.cells?_some h1
    rw[hcell j hj,hs j hj]
   ·exact⟨⟨0,0,0,none,0,0,fun _=>0,fun _=>0,fun _=>0⟩,fun h=>absurd h hi⟩
  obtain⟨S,hS⟩:=Classical.axiomOfChoice h0
  refine⟨by omega,hl,S,⟨fun hn=>?_,fun k hk=>(hS k hk).2⟩⟩
  obtain⟨b,off,spot⟩:=ad
  have c0:=(hS 0 (by omega)).1 0 (by decide)
  have hspot:spot=none:=by simpa[Addr.add]using World.cell?_spot c0
  subst hspot
  have hadd:∀o j,(⟨b,o,none⟩:Addr).add j=⟨b,o+j,none⟩:=fun o j=>by unfold Addr.add;split<;>simp_all
  refine⟨b,off,rfl,?_,fun k hk j hj=>?_⟩
  ·rw[hadd,hadd]at c0
   exact World.block_lt_of_cell? w _ c0
  ·have:=(hS k hk).1 j hj
   rw[hadd,hadd]at this
   exact this
end
def fewN (S:Nat→SV):Nat→Int
 | 0=>0
 | k+1=>wrap64 (fewN S k+(S k).n)
def fewB (m:Nat) (most:Nat) (S:Nat→SV):Bool:=decide (m≤most) && decide (fewN S (min m (most+1))≤9001)
theorem fewN_range (S:Nat→SV):∀k,-9223372036854775808≤fewN S k∧fewN S k≤9223372036854775807
 | 0=>by unfold fewN;omega
 | k+1=>by unfold fewN wrap64;omega
set_option maxRecDepth 100000 in
set_option maxHeartbeats 1600000 in
theorem few45_ok (A:Option Addr) (m c most:Nat) (S:Nat→SV) (hmost:most≤1000) (w:World) (h:Steps w A m S) (hm:m≤maxLen) :
  Calls Tryz.prog 5 #[.slice A m c,.int .i64 (most:Int)] w fun e w'=>e=.returned (.bool (fewB m most S))∧Below w.heap.size w w':=by
 have H:=zh h
 unfold maxLen at hm
 clear h
 go_enter Tryz.func5,Tryz.ntmps5
 go_wp2
 go_loopw [5,6] (fun v5 v6 wr=>∃k:Nat,k≤m∧k≤most+1∧v6=.int .i64 k∧v5=.int .i64 (fewN S k)∧Below w.heap.size w wr) (fun _ v6 _=>m-(intOf v6).toNat)
 case atStart=>exact⟨0,by omega,by omega,rfl,rfl,Below.refl _ _⟩
 case round=>
  obtain⟨k,hk,hk2,rfl,rfl,hb⟩:=hrel
  have HB:=zh hb
  clear hb
  have k0:(0:Int)≤(k:Int):=by omega
  have k9:(k:Int)≤1001:=by omega
  have hr:=fewN_range S k
  have HN:Hid (fewN S (k+1)=wrap64 (fewN S k+(S k).n)):=zh rfl
  by_cases hgo:k < m∧k≤most
  ·have d1:decide ((k:Int) < (m:Int))=true:=decide_eq_true (by omega)
   have d2:decide ((k:Int)≤(most:Int))=true:=decide_eq_true (by omega)
   have k1:(k:Int) < (m:Int):=by omega
   obtain⟨lb,lo,hA,hbl,hc⟩:=(H.out.below HB.out).at_ (by omega)
   have c3:wr.cell? ⟨lb,lo+k*36+3,none⟩=some (.slice (S k).A (S k).n (S k).c):=hc k hgo.1 3 (by decide)
   subst hA
   clear hc
   go_wp2
   go_roundw
   case rel=>exact⟨k+1,by omega,by omega,by go_num,by rw[HN.out],HB.out⟩
   case measure=>simp[intOf];omega
  ·have hx:k=min m (most+1):=by omega
   have HF:Hid (fewB m most S=(decide (m≤most) && decide (fewN S k≤9001))):=zh (by unfold fewB;rw[←hx])
   clear hx
   by_cases hm2:m≤most
   ·have d1:decide ((k:Int) < (m:Int))=false:=decide_eq_false (by omega)
    have d3:decide ((m:Int)≤(most:Int))=true:=decide_eq_true (by omega)
    rw[decide_eq_true hm2,Bool.true_and]at HF
    go_wp2
    go_ret
    exact⟨ret_bool (by rw[HF.out]),HB.out⟩
   ·have d3:decide ((m:Int)≤(most:Int))=false:=decide_eq_false (by omega)
    have hkm:k=most+1:=by omega
    have d2:decide ((k:Int)≤(most:Int))=false:=decide_eq_false (by omega)
    clear hkm
    rw[decide_eq_false hm2,Bool.false_and]at HF
    rcases Nat.lt_or_ge k m with hc | hc
    ·have d1:decide ((k:Int) < (m:Int))=true:=decide_eq_true (by omega)
     go_wp2
     go_ret
     exact⟨ret_bool (by rw[HF.out]),HB.out⟩
    ·have d1:decide ((k:Int) < (m:Int))=false:=decide_eq_false (by omega)
     go_wp2
     go_ret
     exact⟨ret_bool (by rw[HF.out]),HB.out⟩
end Go.Proofs.YtjanmleoomoedaaGreat
namespace Go.Proofs.YtjanmleoomoedaaGreat
open Go.RowKit
set_option linter.unusedVariables false
attribute [local go_sem ↓] Go.wp_at_zero Go.wp_at_succ
set_option maxRecDepth 100000 in
set_option maxHeartbeats 1600000 in
theorem tsubmit_badA (g:Nat) (s:TS) (W R:Nat→Prop) (w:World) (h:TxI w g s W R) (hf:s.Fine) (t:Int) (ht1:-9223372036854775808≤t) (ht2:t≤9223372036854775807) (A:Option Addr) (n c:Nat) (z:Nat→Int) (ha:ArgB w W A n z) (hbad:1073741824≤t∨n=0∨9000 < n) (hn9:n≤maxLen) :
  Calls Tryz.prog 15 #[.pointer (some ⟨g,0,none⟩),.int .i64 t,.slice A n c] w fun e w'=>e=.returned (.int .i64 (s.submit t n z).1)∧TxO W R w w' g (s.submit t n z).2:=by
 unfold TS.submit
 unfold maxLen at hn9
 have hl3:(n:Int)≤9223372036854775807:=by omega
 clear hn9
 by_cases ct:1073741824≤t
 ·rw[if_pos ct]
  have HTK:=zh (ttick_ok g s W R w h hf t ht1 ht2)
  have HA:=zh ha
  have HF:=zh hf
  have n0:(0:Int)≤(n:Int):=by omega
  clear h hf ha
  go_enter Tryz.func15,Tryz.ntmps15
  rw[if_pos ct,if_pos ct]at HTK
  go_wp2_with (go_at_call 38;refine(HTK.out).mono ?_;rintro e w1 ⟨rfl,hO⟩;have HO:=zh hO;clear hO)
  go_ret
  exact⟨rfl,HO.out⟩
 rw[if_neg ct]
 by_cases cn:n=0
 ·rw[if_pos cn]
  have hz:(n:Int)=0:=by omega
  have HTK:=zh (ttick_ok g s W R w h hf t ht1 ht2)
  have HA:=zh ha
  have HF:=zh hf
  have n0:(0:Int)≤(n:Int):=by omega
  clear h hf ha
  go_enter Tryz.func15,Tryz.ntmps15
  rw[if_neg ct,if_neg ct]at HTK
  go_wp2_with (go_at_call 38;refine(HTK.out).mono ?_;rintro e w1 ⟨rfl,hO⟩;have HO:=zh hO;clear hO)
  go_ret
  exact⟨rfl,HO.out⟩
 rw[if_neg cn]
 have cl:9000 < n:=by omega
 rw[if_pos cl]
 have HTK:=zh (ttick_ok g s W R w h hf t ht1 ht2)
 have HA:=zh ha
 have HF:=zh hf
 have n0:(0:Int)≤(n:Int):=by omega
 clear h hf ha
 go_enter Tryz.func15,Tryz.ntmps15
 rw[if_neg ct,if_neg ct]at HTK
 have hl1:¬((n:Int)=0):=by omega
 have hl2:(9000:Int) < (n:Int):=by omega
 go_wp2_with (go_at_call 38;refine(HTK.out).mono ?_;rintro e w1 ⟨rfl,hO⟩;have HO:=zh hO;clear hO)
 go_ret
 exact⟨rfl,HO.out⟩
theorem tsubmit_any (g:Nat) (s:TS) (W R:Nat→Prop) (w:World) (h:TxI w g s W R) (hf:s.Fine) (hcm:s.C.cm=false) (hql:s.Q.length≤1000000) (t:Int) (ht1:-9223372036854775808≤t) (ht2:t≤9223372036854775807) (A:Option Addr) (n c:Nat) (z:Nat→Int) (ha:ArgB w W A n z) (hn9:n≤maxLen) :
  Calls Tryz.prog 15 #[.pointer (some ⟨g,0,none⟩),.int .i64 t,.slice A n c] w fun e w'=>e=.returned (.int .i64 (s.submit t n z).1)∧TxO W R w w' g (s.submit t n z).2:=by
 by_cases h9:n≤1000000
 ·exact tsubmit_ok g s W R w h hf hcm hql t ht1 ht2 A n c z ha h9
 ·exact tsubmit_badA g s W R w h hf t ht1 ht2 A n c z ha (.inr (.inr (by omega))) hn9
def firstCt (x:Int):List PV→Option Nat
 | []=>none
 | p :: r=>if p.ct=x then some 0 else (firstCt x r).map (·+1)
theorem firstCt_some {x:Int}:∀{l:List PV} {i:Nat},firstCt x l=some i→∃e,l[i]? = some e∧e.ct=x∧∀j,j < i→∀e,l[j]? = some e→e.ct ≠ x
 | [],i,h=>by cases h
 | q :: r,i,h=>by
  unfold firstCt at h
  split at h
  ·cases h
   exact⟨q,rfl,by assumption,fun j hj=>absurd hj (by omega)⟩
  ·cases hr:firstCt x r with
   | none=>rw[hr]at h;cases h
   | some k=>
    rw[hr]at h
    simp only[Option.map_some,Option.some.injEq]at h
    subst h
    obtain⟨e,h1,h2,h3⟩:=firstCt_some hr
    refine⟨e,by simpa using h1,h2,fun j hj e' he=>?_⟩
    cases j with
    | zero=>
     have:q=e':=by simpa using he
     subst this
     assumption
    | succ j=>exact h3 j (by omega) e' (by simpa using he)
theorem firstCt_none {x:Int}:∀{l:List PV},firstCt x l=none→∀e,e∈l→e.ct ≠ x
 | [],_,e,he=>by cases he
 | q :: r,h,e,he=>by
  unfold firstCt at h
  split at h
  ·cases h
  ·have hr:firstCt x r=none:=by
    cases hx:firstCt x r with
    | none=>rfl
    | some k=>rw[hx]at h;cases h
   rcases List.mem_cons.1 he with rfl | he
   ·assumption
   ·exact firstCt_none hr e he
def TS.confirmed (s:TS) (x:Int):Int×TS:=match firstCt x s.P with | some i=>(0,{ s with P:=s.P.eraseIdx i }) | none=>(10,s)
def TS.rekey (s:TS) (U:List (Nat→Int)) (f c:Nat→Int):Int×TS:=if hasKey f U=true then (461,s) else (0,s.rekeyed f c)
section
variable {w0 w w':World} {g:Nat} {s:TS} {N:Nat→Prop}
theorem SoloN.callO (h:SoloN w0 w g s N):∃W R,TxI w g s W R∧(∀k,N k→¬W k)∧(∀k,W k→w0.heap.size≤k)∧∀w' s',TxO W R w w' g s'→SoloN w0 w' g s' N∧∀k,N k→w'.heap[k]? = w.heap[k]?:=by
 obtain⟨W,R,h1,h2,h3,h4⟩:=h
 have hh:SoloN w0 w g s N:=⟨W,R,h1,h2,h3,h4⟩
 refine⟨W,R,h1,fun k hk=>(h4 k hk).2.2.1,h2,fun w' s' ⟨W',R',hI,hW,hR,hK⟩=>?_⟩
 have hs:=h3.size
 refine⟨⟨W',R',hI,fun k hk=>?_,KeepF.below h3 hK (fun k hk=>h2 k hk) hs,fun k hk=>?_⟩,fun k hk=>hK.block k (h4 k hk).2.1 (h4 k hk).2.2.1⟩
 ·rcases hW k hk with h | h
  ·exact h2 k h
  ·omega
 ·have h5:=h4 k hk
  refine⟨h5.1,Nat.lt_of_lt_of_le h5.2.1 hK.size,fun hw=>?_,fun hr=>?_⟩
  ·rcases hW k hw with h | h
   ·exact h5.2.2.1 h
   ·omega
  ·rcases hR k hr with h | h
   ·exact h5.2.2.2 h
   ·omega
theorem solon_submitA (h:SoloN w0 w g s N) (hf:s.Fine) (hcm:s.C.cm=false) (hql:s.Q.length≤1000000) (t:Int) (ht1:-9223372036854775808≤t) (ht2:t≤9223372036854775807) (A:Option Addr) (n c:Nat) (z:Nat→Int) (hr:Row w w.heap.size A n (fun j=>.int .u8 (z j))) (hz:∀j,j < n→0≤z j∧z j < 256) (hA:∀a,A=some a→n ≠ 0→N a.block∨a.block < w0.heap.size) (hn9:n≤maxLen) :
  Calls Tryz.prog 15 #[.pointer (some ⟨g,0,none⟩),.int .i64 t,.slice A n c] w fun e w'=>e=.returned (.int .i64 (s.submit t n z).1)∧SoloN w0 w' g (s.submit t n z).2 N∧∀k,N k→w'.heap[k]? = w.heap[k]?:=by
 obtain⟨W,R,h1,h4,h2,hc⟩:=h.callO
 refine(tsubmit_any g s W R w h1 hf hcm hql t ht1 ht2 A n c z ⟨hr,hz,fun a e hn hw=>?_⟩ hn9).mono fun e w' ⟨he,hO⟩=>⟨he,hc w' _ hO⟩
 rcases hA a e hn with h5 | h5
 ·exact h4 _ h5 hw
 ·have:=h2 _ hw;omega
theorem solon_confirm (h:SoloN w0 w g s N) (x:Int) :
  Calls Tryz.prog 17 #[.pointer (some ⟨g,0,none⟩),.int .u32 x] w fun e w'=>e=.returned (.int .i64 (s.confirmed x).1)∧SoloN w0 w' g (s.confirmed x).2 N∧∀k,N k→w'.heap[k]? = w.heap[k]?:=by
 obtain⟨W,R,h1,h4,h2,hc⟩:=h.callO
 unfold TS.confirmed
 cases hx:firstCt x s.P with
 | none=>
  refine(tconfirm_no g s W R w h1 x (firstCt_none hx)).mono fun e w' ⟨he,hB⟩=>⟨he,hc w' _ (TxO.same h1 hB)⟩
 | some i=>
  obtain⟨e0,he,hct,hno⟩:=firstCt_some hx
  exact(tconfirm_ok g s W R w h1 x i e0 he hct hno).mono fun e w' ⟨he,hO⟩=>⟨he,hc w' _ hO⟩
theorem solon_rekey (h:SoloN w0 w g s N) (U:List (Nat→Int)) (hU:s.used=U.map kArr) (hco:CompOk s.comp) (hpl:s.P.length≤1000000) (f c:Nat→Int) :
  Calls Tryz.prog 29 #[.pointer (some ⟨g,0,none⟩),.agg (kArr f),.agg (kArr c)] w fun e w'=>e=.returned (.int .i64 (s.rekey U f c).1)∧SoloN w0 w' g (s.rekey U f c).2 N∧∀k,N k→w'.heap[k]? = w.heap[k]?:=by
 obtain⟨W,R,h1,h4,h2,hc⟩:=h.callO
 unfold TS.rekey
 by_cases hk:hasKey f U=true
 ·rw[if_pos hk]
  exact(trekey_used g s W R w h1 U hU f c hk).mono fun e w' ⟨he,hB⟩=>⟨he,hc w' _ (TxO.same h1 hB)⟩
 ·rw[if_neg hk]
  exact(trekey_new g s W R w h1 U hU hco hpl f c (by simpa using hk)).mono fun e w' ⟨he,hO⟩=>⟨he,hc w' _ hO⟩
end
theorem keyEq_symm {f g:Nat→Int} (h:keyEq f g=true):keyEq g f=true:=keyEq_iff.2 fun j hj=>(keyEq_iff.1 h j hj).symm
section
variable {s:TS} {U:List (Nat→Int)} {sent:List ((Nat→Int)×Nat)} {K i:Nat}
end
end Go.Proofs.YtjanmleoomoedaaGreat

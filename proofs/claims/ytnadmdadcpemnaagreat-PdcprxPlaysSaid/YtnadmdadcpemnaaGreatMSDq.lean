import Derived.Test.YtnadmdadcpemnaaGreatMZOq
import Derived.Test.YtnadmdadcpemnaaGreatMDQq
import Derived.Test.YtnadmdadcpemnaaGreatMZMq
import Derived.Test.YtnadmdadcpemnaaGreatMDAq
import Derived.Deep.Slices
import Derived.Shelf.SlMaps.Clone
import Derived.Laws.Externs
import Derived.Test.YtnadmdadcpemnaaGreatB1q
set_option maxRecDepth 100000
set_option maxHeartbeats 3200000
namespace Go.Proofs.YtnadmdadcpemnaaGreat
set_option linter.unusedVariables false
set_option linter.unusedSimpArgs false
open Go.RowKit
attribute [local go_sem ↓] Go.wp_at_zero Go.wp_at_succ
def keyEq (f g:Nat->Int):Bool:=(List.range 16).all fun j=>decide (f j=g j)
theorem k_items2 (f g:Nat->Int) (d:Nat):∀(is:List Nat) (_:∀i,i∈is->i < 16) (w:World),(Op.eqItems (d+1) 5 1 (kArr f) (kArr g) is).run Tryz.prog w=.ok (is.all fun j=>decide (f j=g j)) w
 | [],_,w=>by simp[Op.eqItems]
 | i :: is,h,w=>by
  simp only[Op.eqItems,Sem.run_bind,k_part f i (h i (by simp)) w,k_part g i (h i (by simp)) w,Result.andThen_ok];have hr:=k_items2 f g d is (fun j hj=>h j (by simp[hj])) w;by_cases e:f i=g i
  ·simp[go_sem,hr,e]
  ·have e2:(f i == g i)=false:=by simpa using e
   simp[go_sem,e,e2]
theorem k_eq (f g:Nat->Int) (d:Nat) (w:World):(Op.equalIn (d+2) 23 (.agg (kArr f)) (.agg (kArr g))).run Tryz.prog w=.ok (keyEq f g) w:=by
 obtain⟨q,hq,_⟩:=info_parts Tryz.infoByte;rw[run_equalIn_array w (d+1) (kArr f) (kArr g) Tryz.underlying23 hq,cells5,k_items2 f g d (List.range 16) (fun i hi=>by simpa using hi) w]
 rfl
def kAt (f:Nat->Int):List (Nat->Int)->Nat->Option Nat
 | [],_=>none
 | g :: gs,i=>if keyEq f g=true then some i else kAt f gs (i+1)
def hasKey (f:Nat->Int) (U:List (Nat->Int)):Bool:=U.any (keyEq f)
theorem kAt_has (f:Nat->Int):∀(U:List (Nat->Int)) (i:Nat),(kAt f U i).isSome=hasKey f U
 | [],_=>rfl
 | g :: gs,i=>by
  have:=kAt_has f gs (i+1);unfold kAt hasKey;rw[List.any_cons];by_cases h:keyEq f g=true
  ·rw[if_pos h,h];rfl
  ·have h2:keyEq f g=false:=by simpa using h
   rw[if_neg h,h2,this];rfl
theorem k_ask (f:Nat->Int) (w:World):∀(es:List MapEntry) (U:List (Nat->Int)) (_:es.map (·.key)=(U.map kArr).map Value.agg) (_:∀e,e∈es->e.val=.bool true) (i:Nat),(Instr.findAsking 23 (.agg (kArr f)) es i).run Tryz.prog w=.ok ((kAt f U i).map fun j=>(j,.bool true)) w
 | [],[],_,_,_=>by simp[Instr.findAsking,kAt]
 | [],g :: gs,h,_,_=>by cases h
 | e :: es,[],h,_,_=>by cases h
 | e :: es,g :: gs,h,hv,i=>by
  simp only[List.map_cons,List.cons.injEq]at h;have ih:=k_ask f w es gs h.2 (fun e he=>hv e (by simp[he])) (i+1);have hq:(Op.equal 23 (.agg (kArr f)) e.key).run Tryz.prog w=.ok (keyEq f g) w:=by
   rw[h.1]
   exact k_eq f g 9998 w
  unfold Instr.findAsking kAt;by_cases hfg:keyEq f g=true
  ·rw[hfg]at hq;simp[hq,hfg,hv e (by simp)]
  ·have h2:keyEq f g=false:=by simpa using hfg
   rw[h2]at hq;simp[hq,h2,ih]
theorem k_checkE (e:Bool) (f:Nat->Int) (W:World):(Instr.checkKey e 10000 23 (.agg (kArr f))).run Tryz.prog W=.ok () W:=by
 cases e<;>kernel_rfl
theorem k_find (f:Nat->Int) (w:World) (es:List MapEntry) (U:List (Nat->Int)) (h:es.map (·.key)=(U.map kArr).map Value.agg) (hv:∀e,e∈es->e.val=.bool true):(Instr.findKey 23 (.agg (kArr f)) es).run Tryz.prog w=.ok ((kAt f U 0).map fun j=>(j,.bool true)) w:=by
 unfold Instr.findKey;simp only[Sem.run_bind,run_underlying Tryz.underlying23,Result.andThen_ok]
 cases es with
 | nil=>
  cases U with
  | nil=>simp[Instr.findNow,kAt]
  | cons g gs=>cases h
 | cons e es=>
  have hn:∀d,Instr.findNow (.array 16 d) (.agg (kArr f)) (e :: es) 0=none:=fun d=>by
   unfold Instr.findNow
   rfl
  rw[hn]
  exact k_ask f w (e :: es) U h hv 0
theorem k_lookup (W:World) (m:Nat) (U:List (Nat->Int)) (f:Nat->Int) (h:UK W m (U.map kArr)):(Instr.lookup 79 (.map (some m)) (.agg (kArr f)) false).run Tryz.prog W=.ok (.bool (hasKey f U)) W:=by
 obtain⟨es,c,h1,h2,h3⟩:=h;have hf:=k_find f W es.toList U h2 h3;have hc:=fun e=>k_checkE e f W;have hz:(zeroValue 4).run Tryz.prog W=.ok (.bool false) W:=by kernel_rfl
 have hh:=kAt_has f U 0
 cases hk:kAt f U 0 with
 | none=>
  rw[hk]at hf hh;have hh:hasKey f U=false:=hh.symm;simp only[Option.map_none]at hf;simp[Instr.lookup,run_underlying Tryz.underlying79,MapKept.run_getObj_map h1,hc,hf,hz,hh]
 | some j=>
  rw[hk]at hf hh;have hh:hasKey f U=true:=hh.symm;simp only[Option.map_some]at hf;simp[Instr.lookup,run_underlying Tryz.underlying79,MapKept.run_getObj_map h1,hc,hf,hh]
theorem k_put (W:World) (m:Nat) (U:List (Nat->Int)) (f:Nat->Int) (h:UK W m (U.map kArr)) (hno:hasKey f U=false):∃X,(Instr.mapUpdate 79 (.map (some m)) (.agg (kArr f)) (.bool true)).run Tryz.prog W=.ok () X/\UK X m ((U++[f]).map kArr)/\KeepF (fun k=>k=m) W X:=by
 obtain⟨es,c,h1,h2,h3⟩:=h;have hf:=k_find f W es.toList U h2 h3;have hh:=kAt_has f U 0;rw[hno]at hh;have hk:kAt f U 0=none:=by
  cases hk:kAt f U 0 with
  | none=>rfl
  | some j=>rw[hk]at hh;cases hh
 rw[hk]at hf;simp only[Option.map_none]at hf;have hlt:m < W.heap.size:=(Array.getElem?_eq_some_iff.1 h1).1;refine⟨W.putObj m (.map (es.push { key:=.agg (kArr f),val:=.bool true,born:=c }) (c+1)),?_,⟨_,_,World.putObj_heap_same hlt,by simp[h2],fun e he=>?_⟩,KeepF.of_row (grownBy_putObj' W m _) rfl⟩
 ·simp[Instr.mapUpdate,run_underlying Tryz.underlying79,MapKept.run_getObj_map h1,k_checkE false f W,hf,MapKept.run_setObj_map _ h1,Result.andThen,World.putObj]
 ·rcases Array.mem_push.1 (Array.mem_toList_iff.1 he)with h | h
  ·exact h3 e (Array.mem_toList_iff.2 h)
  ·rw[h]
theorem keepF_row {F:Nat->Prop} {w w':World} (h:KeepF F w w') {g:Nat} (hg:F g) (cs:Array Value):KeepF F w (w'.setRow g cs):=by
 have hb:=belowRow (Below.refl 0 w') (Nat.zero_le g) cs
 exact⟨hb.os.trans h.os,hb.tape.trans h.tape,hb.output.trans h.output,Nat.le_trans h.size hb.size,fun k hk hn=>(setRow_other _ _ _ _ (fun e=>hn (by rw[e];exact hg))).trans (h.block k hk hn)⟩
def Cfg.keys (C:Cfg) (f c:Nat->Int):Cfg:={ C with key:=f,code:=c }
theorem blk_there {w:World} {g:Nat} {t:TypeId} {cs:Array Value} (h:Blk w g t cs) (o n:Nat) (hn:o+n<=cs.size):w.there g o n:=fun j hj=>⟨by rw[h.cell,Array.getElem?_eq_getElem (by omega)];rfl,h.frozen _⟩
theorem k_size (f:Nat->Int):(Tryz.prog.info? 23).map (·.size)=some (kArr f).toList.length:=by kernel_rfl
theorem k_one (f:Nat->Int):(kArr f).all (·.oneCell')=true:=by kernel_rfl
theorem sizeExp:(Tryz.prog.info? 127).map (·.size)=some 177:=by kernel_rfl
theorem zeroExp_size:(Tryz.zeroCells127).size=177:=by kernel_rfl
theorem exL_one:(Tryz.zeroCells127.setIfInBounds 0 (.bool true)).all (·.oneCell')=true:=by kernel_rfl
theorem exL_zero:(Tryz.zeroCells127.setIfInBounds 0 (.bool true))[0]? = some (.bool true):=by kernel_rfl
theorem exnone_ok (eb:Nat) (o:Obj) (w:World) (h:w.heap[eb]? = some o) (ho:IsEx o):Calls Tryz.prog 75 #[.pointer (some ⟨eb,0,none⟩)] w fun e w'=>e=.returned (.bool false)/\w=w':=by
 obtain⟨L,rfl,hL⟩:=ho;have c0:w.cell? ⟨eb,0,none⟩=some (.bool true):=(Blk.cell (show Blk w eb 127 L from h) 0).trans (by rw[hL];exact exL_zero);clear h hL;go_enter Tryz.func75,Tryz.ntmps75;go_wp2;go_ret
 exact⟨rfl,rfl⟩
theorem exnew_ok (w:World):Calls Tryz.prog 40 #[] w fun e w'=>e=.returned (.pointer (some ⟨w.heap.size,0,none⟩))/\w.alloc (.cells (Tryz.zeroCells127.setIfInBounds 0 (.bool true)) 127)=w':=by
 go_enter Tryz.func40,Tryz.ntmps40;go_wp2;go_ret
 exact⟨rfl,rfl⟩
theorem exreset_ok (cb:Nat) (o:Obj) (w:World) (h:w.heap[cb]? = some o) (ho:IsEx o):Calls Tryz.prog 73 #[.pointer (some ⟨cb,0,none⟩)] w fun e w'=>e=.returned (.int .i64 0)/\w'.heap[cb]? = some o/\KeepF (fun k=>k=cb) w w':=by
 have HNO:=zh (fun V hV=>exnone_ok cb o V hV ho);have HNW:=zh (fun V=>exnew_ok V);obtain⟨N,hX,hN⟩:=ho;have HH:=zh h;have HB:Hid (Blk w cb 127 N):=zh (h.trans (by rw[hX]));have HSZ:Hid ((Tryz.prog.info? 127).map (·.size)=some N.size):=zh (by rw[hN,Array.size_setIfInBounds,zeroExp_size];exact sizeExp);have HO:Hid (N.all (·.oneCell')=true):=zh (by rw[hN];exact exL_one);have HU:=zh Tryz.underlying127;have HX:=zh hX;rw[<-hN]at HNW;clear h hX hN;go_enter Tryz.func73,Tryz.ntmps73;go_upto_region 3 with (go_at_call 75;refine(HNO.out _ HH.out).mono ?_;rintro e w1 ⟨rfl,rfl⟩)
 go_upto_region 4 with (first
  | (go_at_call 40;refine(HNW.out _).mono ?_;rintro e w1 ⟨rfl,hA⟩;have WA:=zh hA.symm;have HNB:Hid (Blk w1 w.heap.size 127 N):=zh (by rw[<-hA];exact Blk.new _ _ _);have HB1:Hid (Blk w1 cb 127 N):=zh (by rw[<-hA];exact HB.out.alloc _);clear hA)
  | (refine wpList_load_row rfl _ _ rfl w.heap.size rfl 127 N (0,0) _ HNB.out HU.out rfl HSZ.out ?_)
  | (refine wpList_store_row rfl _ _ _ rfl cb N rfl rfl 127 N HB1.out HSZ.out rfl HO.out ?_))
 try simp only[Act.put]
 refine wp_let (fun V=>V.heap[cb]? = some o/\KeepF (fun k=>k=cb) w V) ⟨by rw[HX.out];exact setRow_heap _ _ _ N 127 (0,0) HB1.out,keepF_row (F:=fun k=>k=cb) (by rw[WA.out];exact KeepF.refl.alloc _) rfl _⟩ ?_;rintro V ⟨v1,v2⟩;have V1:=zh v1;have V2:=zh v2;clear v1 v2;go_wp2;go_ret
 exact⟨rfl,V1.out,V2.out⟩
def RS.rekeyed (s:RS) (f c:Nat->Int):RS:={ s with C:=s.C.keys f c,used:=s.used++[kArr f] }
theorem rArr_keys (C:Cfg) (f c:Nat->Int) (now d nx:Int) (sb:Nat) (run:Bool) (lim ex:Int) (ub eb:Nat) (dup:Int):tsAll (tsAll (rArr C.arr now d nx sb run lim ex ub eb dup) 2 (kArr f).toList) 18 (kArr c).toList=rArr (C.keys f c).arr now d nx sb run lim ex ub eb dup:=by
 have l1:(kArr f).toList.length=16:=rfl;have l2:(kArr c).toList.length=16:=rfl;have hs:=rArr_size (now:=now) (d:=d) (nx:=nx) (sb:=sb) (run:=run) (lim:=lim) (ex:=ex) (ub:=ub) (eb:=eb) (dup:=dup) C.arr_size;apply Array.ext_getElem?;intro j;by_cases h1:18<=j/\j < 34
 ·have:=tsAll_in (kArr c).toList 18 (tsAll (rArr C.arr now d nx sb run lim ex ub eb dup) 2 (kArr f).toList) (j-18) (by omega) (by rw[tsAll_size,hs];omega);rw[show 18+(j-18)=j by omega]at this;rw[this,Array.getElem?_toList,kArr_at c _ (by omega),rArr_low (C.keys f c).arr_size (by omega),Cfg.arr_at _ (by omega)];unfold Cfg.cell;rw[if_neg (by omega),if_neg (by omega),if_neg (by omega),if_pos (by omega)]
  rfl
 ·rw[tsAll_out _ _ _ _ (by omega)];by_cases h2:2<=j/\j < 18
  ·have:=tsAll_in (kArr f).toList 2 (rArr C.arr now d nx sb run lim ex ub eb dup) (j-2) (by omega) (by rw[hs];omega);rw[show 2+(j-2)=j by omega]at this;rw[this,Array.getElem?_toList,kArr_at f _ (by omega),rArr_low (C.keys f c).arr_size (by omega),Cfg.arr_at _ (by omega)];unfold Cfg.cell;rw[if_neg (by omega),if_neg (by omega),if_pos (by omega)]
   rfl
  ·rw[tsAll_out _ _ _ _ (by omega)];by_cases h3:j < 39
   ·rw[rArr_low C.arr_size h3,rArr_low (C.keys f c).arr_size h3,C.arr_at h3,Cfg.arr_at _ h3];unfold Cfg.cell Cfg.keys;by_cases h4:j < 18
    ·have:j=0\/j=1:=by omega
     rcases this with rfl | rfl<;>rfl
    ·have:j=34\/j=35\/j=36\/j=37\/j=38:=by omega
     rcases this with rfl | rfl | rfl | rfl | rfl<;>rfl
   ·by_cases h4:j < 51
    ·have:=rArr_high (now:=now) (d:=d) (nx:=nx) (sb:=sb) (run:=run) (lim:=lim) (ex:=ex) (ub:=ub) (eb:=eb) (dup:=dup) C.arr_size (j-39);have h5:=rArr_high (now:=now) (d:=d) (nx:=nx) (sb:=sb) (run:=run) (lim:=lim) (ex:=ex) (ub:=ub) (eb:=eb) (dup:=dup) (C.keys f c).arr_size (j-39);rw[show 39+(j-39)=j by omega]at this h5;rw[this,h5]
    ·rw[Array.getElem?_eq_none (by omega),Array.getElem?_eq_none (by rw[rArr_size (C.keys f c).arr_size];omega)]
section
variable {w w1:World} {g:Nat} {s:RS} {W R:Nat->Prop} {sb:Nat} {l:List SE} {ub eb:Nat}
theorem RxM.setUsed (h:RxM w g s W R sb l ub eb) (hk:KeepF (fun k=>k=ub) w w1) {L:List (Array Value)} (hu:UK w1 ub L):RxM w1 g { s with used:=L } W R sb l ub eb:=
 ⟨hk.blk h.blk (fun e=>h.gu e),h.lv,h.st.keepF hk (fun e=>h.su e),h.ris,h.rng,hu,(hk.block _ (h.win _ h.wx) (fun e=>h.xu e)).trans h.x,fun e he=>(h.pk e he).keep hk (fun k e2 hr=>h.dis k (e2 ▸ h.wu) hr),⟨h.ok.now,h.ok.deliver,h.ok.next,h.ok.limit,h.ok.expiry,h.ok.dup⟩,h.wg,h.ws,h.wu,h.wx,h.xg,h.xs,h.xu,h.su,h.dis,fun k hw=>Nat.lt_of_lt_of_le (h.win k hw) hk.size,fun k hw=>Nat.lt_of_lt_of_le (h.rin k hw) hk.size,h.xo⟩
theorem RxM.setExp (h:RxM w g s W R sb l ub eb) (hk:KeepF (fun k=>k=eb) w w1) (ho:w1.heap[eb]? = some s.exp):RxM w1 g s W R sb l ub eb:=
 ⟨hk.blk h.blk (fun e=>h.xg e.symm),h.lv,h.st.keepF hk (fun e=>h.xs e.symm),h.ris,h.rng,h.u.keep (hk.block _ h.u.lt (fun e=>h.xu e.symm)),ho,fun e he=>(h.pk e he).keep hk (fun k e2 hr=>h.dis k (e2 ▸ h.wx) hr),h.ok,h.wg,h.ws,h.wu,h.wx,h.xg,h.xs,h.xu,h.su,h.dis,fun k hw=>Nat.lt_of_lt_of_le (h.win k hw) hk.size,fun k hw=>Nat.lt_of_lt_of_le (h.rin k hw) hk.size,h.xo⟩
theorem RxM.setCfg (h:RxM w g s W R sb l ub eb) (hk:KeepF (fun k=>k=g) w w1) {f c:Nat->Int} (hb:Blk w1 g 83 (rArr (s.C.keys f c).arr s.now s.deliver s.next sb s.run s.limit s.expiry ub eb s.dup)):RxM w1 g { s with C:=s.C.keys f c } W R sb l ub eb:=
 h.one (s':={ s with C:=s.C.keys f c }) hk hb rfl rfl rfl h.rng ⟨h.ok.now,h.ok.deliver,h.ok.next,h.ok.limit,h.ok.expiry,h.ok.dup⟩
end
theorem rrekey_used (g:Nat) (s:RS) (W R:Nat->Prop) (sb:Nat) (l:List SE) (ub eb:Nat) (w:World) (h:RxM w g s W R sb l ub eb) (U:List (Nat->Int)) (hU:s.used=U.map kArr) (f c:Nat->Int) (hno:hasKey f U=true) :
  Calls Tryz.prog 46 #[.pointer (some ⟨g,0,none⟩),.agg (kArr f),.agg (kArr c)] w fun e w'=>e=.returned (.int .i64 461)/\Below w.heap.size w w':=by
 have HNO:=zh (fun(V:World) (hb:Below w.heap.size w V)=>rxmade_ok g V (h.below hb).made);have HT:=zh h;have hT:=h;have HLK:=zh (fun(V:World) (hb:Below w.heap.size w V)=>k_lookup V ub U f (by rw[<-hU];exact(hT.below hb).u));have HSK:=zh (k_size f);have HSC:=zh (k_size c);have HOK:=zh (k_one f);have HOC:=zh (k_one c);have HUK:=zh Tryz.underlying23;obtain⟨KF,hKF⟩:∃KF,KF=kArr f:=⟨_,rfl⟩
 obtain⟨KC,hKC⟩:∃KC,KC=kArr c:=⟨_,rfl⟩
 have HKF:=zh hKF;have HKC:=zh hKC;rw[<-hKF]at HLK HSK HOK ⊢;rw[<-hKC]at HSC HOC ⊢;rw[hno]at HLK;clear hT h hKF hKC hU hno;go_enter Tryz.func46,Tryz.ntmps46;go_upto_region 1 with (fail)
 obtain⟨kb,hkb⟩:∃kb,kb=w.heap.size:=⟨_,rfl⟩
 have HKB:=zh hkb;refine wp_let (fun V=>Blk V kb 23 KF/\Blk V (kb+1) 23 KC/\Below w.heap.size w V) ⟨by rw[hkb];exact(blk_atZ _ _ _ _ rfl).alloc _,by rw[hkb];exact blk_atZ _ _ _ _ (by simp),((Below.refl _ w).alloc (Nat.le_refl _) _).alloc (by simp) _⟩ ?_;rintro W1 ⟨b1,b2,b3⟩;have B1:=zh b1;have B2:=zh b2;have B3:=zh b3;rw[<-hkb];clear b1 b2 b3 hkb;go_upto_region 3 with (go_at_call 43;refine(HNO.out _ B3.out).mono ?_;rintro e w3 ⟨rfl,rfl⟩)
 have HKR:=zh (show ∀W',Below W1.heap.size W1 W'->W'.rangeAt kb 0 KF.toList from fun W' hW=>(B1.out.below hW B1.out.lt).range _ (by simp));have HC47:=zh (show ∀W',Below W1.heap.size W1 W'->W'.cell? ⟨g,47,none⟩=some (.map (some ub))from fun W' hW=>(HT.out.below (B3.out.trans (hW.mono B3.out.size))).cu);have HL2:=zh (show ∀W',Below W1.heap.size W1 W'->(Instr.lookup 79 (.map (some ub)) (.agg KF) false).run Tryz.prog W'=.ok (.bool true) W' from fun W' hW=>HLK.out W' (B3.out.trans (hW.mono B3.out.size)));refine wp_region_held_drew (S:=fun w'=>Below W1.heap.size W1 w') (by kernel_rfl) ((Below.refl _ W1).drew) (fun hHeld=>?_);obtain⟨w0,hw0⟩:∃w0,w0=W1.drew:=⟨_,rfl⟩
 rw[<-hw0];rw[<-hw0]at hHeld;clear hw0;refine tkR (i:=0) (x:=some 11) (v:=.pointer (some ⟨g,0,none⟩)) rfl ?_;refine tkS (i:=1) (x:=some 12) (v:=.pointer (some ⟨g,0,none⟩)) rfl ?_;refine tkS (i:=2) (x:=some 13) (v:=.pointer (some ⟨g,47,none⟩)) rfl ?_;refine tkY (i:=3) (x:=some 14) (v:=.map (some ub)) rfl (.inl ⟨by rfl,fun W hW=>(by have:=HC47.out W hW;go_simp)⟩) ?_;refine' tkY (i:=4) (x:=some 15) (v:=_) rfl (yieldsIf_load_mid (by rfl) _ _ rfl kb 0 rfl KF.toList _ (fun w h=>HKR.out w h) HUK.out rfl HSK.out) ?_;refine tkY (i:=5) (x:=some 16) (v:=.bool true) rfl (.inl ⟨by rfl,fun W hW=>(by have:=HL2.out W hW;go_simp)⟩) ?_;refine tkR (i:=6) (x:=some 10) (v:=.bool true) rfl ?_;refine wpAnyH_done (by kernel_rfl) ?_ _;have H2:=zh hHeld;clear hHeld;go_wp2;go_ret
 exact⟨rfl,B3.out.trans (H2.out.mono B3.out.size)⟩
theorem rrekey_new (g:Nat) (s:RS) (W R:Nat->Prop) (sb:Nat) (l:List SE) (ub eb:Nat) (w:World) (h:RxM w g s W R sb l ub eb) (U:List (Nat->Int)) (hU:s.used=U.map kArr) (hcm:s.C.cm=false) (f c:Nat->Int) (hno:hasKey f U=false) :
  Calls Tryz.prog 46 #[.pointer (some ⟨g,0,none⟩),.agg (kArr f),.agg (kArr c)] w fun e w'=>e=.returned (.int .i64 0)/\RxM w' g (s.rekeyed f c) W R sb l ub eb/\KeepF W w w':=by
 have HNO:=zh (fun(V:World) (hb:Below w.heap.size w V)=>rxmade_ok g V (h.below hb).made);have HT:=zh h;have hT:=h;have HLK:=zh (fun(V:World) (hb:Below w.heap.size w V)=>k_lookup V ub U f (by rw[<-hU];exact(hT.below hb).u));have HSK:=zh (k_size f);have HSC:=zh (k_size c);have HOK:=zh (k_one f);have HOC:=zh (k_one c);have HUK:=zh Tryz.underlying23;have HPUT:=zh (fun(V:World) (hb:Below w.heap.size w V)=>k_put V ub U f (by rw[<-hU];exact(hT.below hb).u) hno);have HU2:=zh (show(U++[f]).map kArr=s.used++[kArr f] by rw[hU,List.map_append];rfl);have HXO:=zh (HT.out.xo hcm);clear hcm;obtain⟨KF,hKF⟩:∃KF,KF=kArr f:=⟨_,rfl⟩
 obtain⟨KC,hKC⟩:∃KC,KC=kArr c:=⟨_,rfl⟩
 have HKF:=zh hKF;have HKC:=zh hKC;rw[<-hKF]at HLK HSK HOK ⊢;rw[<-hKC]at HSC HOC ⊢;rw[hno]at HLK;rw[<-hKF]at HPUT HU2;clear hT h hKF hKC hU hno;go_enter Tryz.func46,Tryz.ntmps46;go_upto_region 1 with (fail)
 obtain⟨kb,hkb⟩:∃kb,kb=w.heap.size:=⟨_,rfl⟩
 have HKB:=zh hkb;refine wp_let (fun V=>Blk V kb 23 KF/\Blk V (kb+1) 23 KC/\Below w.heap.size w V) ⟨by rw[hkb];exact(blk_atZ _ _ _ _ rfl).alloc _,by rw[hkb];exact blk_atZ _ _ _ _ (by simp),((Below.refl _ w).alloc (Nat.le_refl _) _).alloc (by simp) _⟩ ?_;rintro W1 ⟨b1,b2,b3⟩;have B1:=zh b1;have B2:=zh b2;have B3:=zh b3;rw[<-hkb];clear b1 b2 b3 hkb;go_upto_region 3 with (go_at_call 43;refine(HNO.out _ B3.out).mono ?_;rintro e w3 ⟨rfl,rfl⟩)
 have HKR:=zh (show ∀W',Below W1.heap.size W1 W'->W'.rangeAt kb 0 KF.toList from fun W' hW=>(B1.out.below hW B1.out.lt).range _ (by simp));have HC47:=zh (show ∀W',Below W1.heap.size W1 W'->W'.cell? ⟨g,47,none⟩=some (.map (some ub))from fun W' hW=>(HT.out.below (B3.out.trans (hW.mono B3.out.size))).cu);have HL2:=zh (show ∀W',Below W1.heap.size W1 W'->(Instr.lookup 79 (.map (some ub)) (.agg KF) false).run Tryz.prog W'=.ok (.bool false) W' from fun W' hW=>HLK.out W' (B3.out.trans (hW.mono B3.out.size)));refine wp_region_held_drew (S:=fun w'=>Below W1.heap.size W1 w') (by kernel_rfl) ((Below.refl _ W1).drew) (fun hHeld=>?_);obtain⟨w0,hw0⟩:∃w0,w0=W1.drew:=⟨_,rfl⟩
 rw[<-hw0];rw[<-hw0]at hHeld;clear hw0;refine tkR (i:=0) (x:=some 11) (v:=.pointer (some ⟨g,0,none⟩)) rfl ?_;refine tkS (i:=1) (x:=some 12) (v:=.pointer (some ⟨g,0,none⟩)) rfl ?_;refine tkS (i:=2) (x:=some 13) (v:=.pointer (some ⟨g,47,none⟩)) rfl ?_;refine tkY (i:=3) (x:=some 14) (v:=.map (some ub)) rfl (.inl ⟨by rfl,fun W hW=>(by have:=HC47.out W hW;go_simp)⟩) ?_;refine' tkY (i:=4) (x:=some 15) (v:=_) rfl (yieldsIf_load_mid (by rfl) _ _ rfl kb 0 rfl KF.toList _ (fun w h=>HKR.out w h) HUK.out rfl HSK.out) ?_;refine tkY (i:=5) (x:=some 16) (v:=.bool false) rfl (.inl ⟨by rfl,fun W hW=>(by have:=HL2.out W hW;go_simp)⟩) ?_;refine tkR (i:=6) (x:=some 10) (v:=.bool false) rfl ?_;refine wpAnyH_done (by kernel_rfl) ?_ _;have H2:=zh hHeld;clear hHeld;go_upto_region 5 with (fail)
 have H3:=zh (B3.out.trans (H2.out.mono B3.out.size));have T3:=zh (HT.out.below H3.out);have D1:=zh (B1.out.below H2.out B1.out.lt);have D2:=zh (B2.out.below H2.out B2.out.lt);obtain⟨W5,hW5⟩:∃W5,W5=w0:=⟨_,rfl⟩
 rw[<-hW5]at H3 T3 D1 D2 ⊢;clear hW5;have HKR2:=zh (show ∀W',Below W5.heap.size W5 W'->W'.rangeAt kb 0 KF.toList from fun W' hW=>(D1.out.below hW D1.out.lt).range _ (by simp));have HD47:=zh (show ∀W',Below W5.heap.size W5 W'->W'.cell? ⟨g,47,none⟩=some (.map (some ub))from fun W' hW=>(T3.out.below hW).cu);refine wp_region_held_drew (S:=fun w'=>KeepF (fun k=>k=ub) W5 w') (by kernel_rfl) (KeepF.refl.drew) (fun hHeld=>?_);obtain⟨w5,hw5⟩:∃w5,w5=W5.drew:=⟨_,rfl⟩
 have hb5:Below W5.heap.size W5 w5:=by rw[hw5];exact(Below.refl _ _).drew
 have HE:=zh (show ∀W',KeepF (fun k=>k=ub) W5 W'->W'.cell? ⟨g,47,none⟩=some (.map (some ub))from fun W' hW=>(hW.cell (p:=⟨g,47,none⟩) T3.out.blk.lt T3.out.gu).trans T3.out.cu);have HER:=zh (show ∀W',KeepF (fun k=>k=ub) W5 W'->W'.rangeAt kb 0 KF.toList from fun W' hW=>(hW.blk D1.out (fun e=>by have:=HT.out.u.lt;have:=HKB.out;omega)).range _ (by simp));rw[<-hw5];rw[<-hw5]at hHeld;obtain⟨X,hput,hUK,hKX⟩:=HPUT.out w5 (H3.out.trans (hb5.mono H3.out.size));have hTX:=(T3.out.below hb5).setUsed hKX hUK;rw[HU2.out]at hTX;clear hw5;refine tkR (i:=0) (x:=some 17) (v:=.pointer (some ⟨g,0,none⟩)) rfl ?_;refine tkS (i:=1) (x:=some 18) (v:=.pointer (some ⟨g,0,none⟩)) rfl ?_;refine tkS (i:=2) (x:=some 19) (v:=.pointer (some ⟨g,47,none⟩)) rfl ?_;refine tkY (i:=3) (x:=some 20) (v:=.map (some ub)) rfl (.inl ⟨by rfl,fun W hW=>(by have:=HE.out W hW;go_simp)⟩) ?_;refine' tkY (i:=4) (x:=some 21) (v:=_) rfl (yieldsIf_load_mid (by rfl) _ _ rfl kb 0 rfl KF.toList _ (fun w h=>HER.out w h) HUK.out rfl HSK.out) ?_;refine rdH (i:=5) (x:=none) rfl fun K hK=>?_;go_simp;refine hK.out _ _ (hHeld.trans hKX (fun k _ hk=>hk)) (fun hHeld=>?_);clear hK K hput
 try simp only[Act.put]
 refine wpAnyH_done (by kernel_rfl) ?_ _;have HTX:=zh hTX;have H5:=zh (hHeld);have XD1:=zh (hHeld.blk D1.out (fun e=>by have:=HT.out.u.lt;have:=HKB.out;omega));have XD2:=zh (hHeld.blk D2.out (fun e=>by have:=HT.out.u.lt;have:=HKB.out;omega));clear hTX hKX hUK hHeld;go_upto_region 6 with (fail)
 have HGB:=zh (show g < kb from by have:=HT.out.blk.lt;have:=HKB.out;omega);have HF1:=zh (show ∀W',KeepF (fun k=>k=g) X W'->W'.rangeAt kb 0 KF.toList from fun W' hW=>(hW.blk XD1.out (fun e=>by have:=HGB.out;omega)).range _ (by simp));have HF2:=zh (show ∀W',KeepF (fun k=>k=g) X W'->W'.rangeAt (kb+1) 0 KC.toList from fun W' hW=>(hW.blk XD2.out (fun e=>by have:=HGB.out;omega)).range _ (by simp));have HSKF:Hid ((Tryz.prog.info? 23).map (·.size)=some KF.size):=zh (by rw[HKF.out];kernel_rfl);have HSKC:Hid ((Tryz.prog.info? 23).map (·.size)=some KC.size):=zh (by rw[HKC.out];kernel_rfl);refine wp_region_held_drew (S:=fun w'=>KeepF (fun k=>k=g) X w') (by kernel_rfl) (KeepF.refl.drew) (fun hHeld=>?_);obtain⟨w6,hw6⟩:∃w6,w6=X.drew:=⟨_,rfl⟩
 have hb6:Below X.heap.size X w6:=by rw[hw6];exact(Below.refl _ _).drew
 rw[<-hw6];rw[<-hw6]at hHeld;have hT6:=HTX.out.below hb6;clear hw6 hb6;refine tkR (i:=0) (x:=some 22) (v:=.pointer (some ⟨g,0,none⟩)) rfl ?_;refine tkR (i:=1) (x:=some 23) (v:=.pointer (some ⟨g,0,none⟩)) rfl ?_;refine' tkY (i:=2) (x:=some 24) (v:=_) rfl (yieldsIf_load_mid (by rfl) _ _ rfl kb 0 rfl KF.toList _ (fun w h=>HF1.out w h) HUK.out rfl HSK.out) ?_;refine' tkY (i:=3) (x:=some 25) (v:=_) rfl (yieldsIf_load_mid (by rfl) _ _ rfl (kb+1) 0 rfl KC.toList _ (fun w h=>HF2.out w h) HUK.out rfl HSC.out) ?_;refine tkS (i:=4) (x:=some 26) (v:=.pointer (some ⟨g,0,none⟩)) rfl ?_;refine tkS (i:=5) (x:=some 27) (v:=.pointer (some ⟨g,0,none⟩)) rfl ?_;refine tkS (i:=6) (x:=some 28) (v:=.pointer (some ⟨g,2,none⟩)) rfl ?_;refine rdH (i:=7) (x:=none) rfl fun K hK=>?_;refine wp_store_mid _ _ _ rfl g 2 KF rfl rfl (blk_there hT6.blk 2 KF.size (by rw[HKF.out,rArr_size s.C.arr_size];show 2+16<=51;decide)) HSKF.out HOK.out ?_;have hk1:KeepF (fun k=>k=g) X (w6.setCells g 2 KF.toList):=hHeld.trans (ts_keep (F:=fun k=>k=g) rfl _ _ _) (fun _ _ h=>h);have hB1:=ts_setCells KF.toList 2 w6 _ hT6.blk;obtain⟨v1,hv1⟩:∃v1,v1=w6.setCells g 2 KF.toList:=⟨_,rfl⟩
 rw[<-hv1]at hk1 hB1 ⊢;refine hK.out _ _ hk1 (fun hHeld=>?_);clear hK K hk1 hv1 hT6
 try simp only[Act.put]
 refine tkS (i:=8) (x:=some 29) (v:=.pointer (some ⟨g,0,none⟩)) rfl ?_;refine tkS (i:=9) (x:=some 30) (v:=.pointer (some ⟨g,0,none⟩)) rfl ?_;refine tkS (i:=10) (x:=some 31) (v:=.pointer (some ⟨g,18,none⟩)) rfl ?_;refine rdH (i:=11) (x:=none) rfl fun K hK=>?_;refine wp_store_mid _ _ _ rfl g 18 KC rfl rfl (blk_there hB1 18 KC.size (by rw[HKC.out,tsAll_size,rArr_size s.C.arr_size];show 18+16<=51;decide)) HSKC.out HOC.out ?_;have hk2:KeepF (fun k=>k=g) X (v1.setCells g 18 KC.toList):=hHeld.trans (ts_keep (F:=fun k=>k=g) rfl _ _ _) (fun _ _ h=>h);have hB2:=ts_setCells KC.toList 18 v1 _ hB1;obtain⟨v2,hv2⟩:∃v2,v2=v1.setCells g 18 KC.toList:=⟨_,rfl⟩
 rw[<-hv2]at hk2 hB2 ⊢;refine hK.out _ _ hk2 (fun hHeld=>?_);clear hK K hk2 hv2
 try simp only[Act.put]
 refine wpAnyH_done (by kernel_rfl) ?_ _;rw[HKF.out,HKC.out,rArr_keys]at hB2;have T6:=zh (HTX.out.setCfg hHeld hB2);have H6:=zh hHeld;clear hHeld hB1 hB2;have cx:=T6.out.cx;go_wp2_with (go_at_call 73;refine(exreset_ok eb s.exp _ T6.out.x HXO.out).mono ?_;rintro e v3 ⟨rfl,hc,hk⟩;have T7:=zh (T6.out.setExp hk hc);have H7:=zh hk;clear hc hk);go_ret;refine⟨rfl,?_,(((KeepF.of_below (F:=W) H3.out).trans (H5.out.mono (G:=W) (fun k e=>by rw[e];exact HT.out.wu)) (fun _ _ h=>h)).trans (H6.out.mono (G:=W) (fun k e=>by rw[e];exact HT.out.wg)) (fun _ _ h=>h)).trans (H7.out.mono (G:=W) (fun k e=>by rw[e];exact HT.out.wx)) (fun _ _ h=>h)⟩;have h7:=T7.out;rw[HKF.out]at h7
 exact h7
end Go.Proofs.YtnadmdadcpemnaaGreat
namespace Go.Proofs.YtnadmdadcpemnaaGreat
set_option linter.unusedVariables false
set_option linter.unusedSimpArgs false
open Go.RowKit Go.ChangeShapes Go.WideShapes Go.ChangeAt
attribute [local go_sem ↓] Go.wp_at_zero Go.wp_at_succ
structure St6 where
 kind:Int
 now:Int
 A:Option Addr
 n:Nat
 c:Nat
 z:Nat->Int
 key:Nat->Int
 code:Nat->Int
def St6.cell (s:St6) (j:Nat):Value:=if j=0 then .int .i64 s.kind else if j=1 then .int .i64 s.now else if j=2 then .slice s.A s.n s.c else if j < 19 then .int .u8 (s.key (j-3)) else .int .u8 (s.code (j-19))
structure St6Ok (w:World) (s:St6):Prop where
 knd:-9223372036854775808<=s.kind/\s.kind<=9223372036854775807
 now:-9223372036854775808<=s.now/\s.now<=9223372036854775807
 mx:s.n<=maxLen
 cap:s.n<=s.c
 byte:∀j,j < s.n->0<=s.z j/\s.z j < 256
 key:∀j,j < 16->0<=s.key j/\s.key j < 256
 code:∀j,j < 16->0<=s.code j/\s.code j < 256
 row:Row w w.heap.size s.A s.n (fun j=>.int .u8 (s.z j))
theorem St6Ok.below {w w':World} {s:St6} (h:St6Ok w s) (hb:Below w.heap.size w w'):St6Ok w' s:=⟨h.knd,h.now,h.mx,h.cap,h.byte,h.key,h.code,h.row.next hb⟩
structure Steps6 (w:World) (A:Option Addr) (m:Nat) (S:Nat->St6):Prop where
 at_:m ≠ 0->∃lb lo,A=some ⟨lb,lo,none⟩/\lb < w.heap.size/\∀k,k < m->∀j,j < 35->w.cell? ⟨lb,lo+k*35+j,none⟩=some ((S k).cell j)
 ok:∀k,k < m->St6Ok w (S k)
theorem Steps6.below {w w':World} {A:Option Addr} {m:Nat} {S:Nat->St6} (h:Steps6 w A m S) (hb:Below w.heap.size w w'):Steps6 w' A m S:=
 ⟨fun hm=>by
  obtain⟨lb,lo,e,hlt,hc⟩:=h.at_ hm
  exact⟨lb,lo,e,Nat.lt_of_lt_of_le hlt hb.size,fun k hk j hj=>(hb.cell (p:=⟨lb,lo+k*35+j,none⟩) hlt).trans (hc k hk j hj)⟩,fun k hk=>(h.ok k hk).below hb⟩
section
variable {H:Type} {enc:TypeId×Value->H} {w:World} {base:Nat} {spare:Nat->Bool} {held:Bool}
theorem open_bytesR6 {fuel:Nat} {v:Value} {x:DataW H×List MemPlace} (h:DataW.trod enc Tryz.prog w base spare held fuel 35 [v] = some x) (hsp:∀b,spare b=true) :
  ∃a len cap zs,v=.slice a len cap/\IsRow .u8 w a len cap zs:=by
 rcases open_ints Tryz.underlying35 Tryz.underlying5 (by kernel_rfl) h with ⟨hcs,_⟩ | ⟨x,l,c,zs,hcs,_,hl,hm,hz,_,hcell,hwz⟩
 ·simp at hcs;subst hcs
  exact⟨none,0,0,[],rfl,.inl ⟨rfl,rfl,rfl,rfl⟩⟩
 ·simp at hcs;subst hcs;rw[if_pos (hsp _)]at hz
  exact⟨some x,l,c,zs,rfl,.inr ⟨x,rfl,hl,hm,hz,hcell,hwz⟩⟩
theorem open_step6 {fuel:Nat} {cs:List Value} {x:DataW H×List MemPlace} (h:DataW.trod enc Tryz.prog w base spare held fuel 57 cs=some x) (hsp:∀b,spare b=true):∃s:St6,(∀j,j < 35->cs[j]? = some (s.cell j))/\St6Ok w s:=by
 obtain⟨xs,n,_,_,hlc,hlen,hg⟩:=DataW.trod_struct Tryz.underlying57 h;have c3:Tryz.prog.cellsOf 3 = 1:=by kernel_rfl
 have c27:Tryz.prog.cellsOf 35 = 1:=by kernel_rfl
 have c16:Tryz.prog.cellsOf 23 = 16:=by kernel_rfl
 have hc35:Tryz.prog.cellsOf 57 = 35:=by kernel_rfl
 rw[hc35]at hlc;have hx6:xs.length=5:=hlen;have keyi:∀(i o:Nat) (k:IntKind) (ty:TypeId),Tryz.prog.underlying ty=some (.int k)->i < 5->DataW.trod enc Tryz.prog w base spare held n ty ((cs.drop o).take 1)=xs[i]?->∃a,cs[o]? = some (Value.int k a)/\(Lit.int k a).wf=true:=by
  intro i o k ty hu hi h1;rw[List.getElem?_eq_getElem (by omega)]at h1;obtain⟨a,e,_,hw⟩:=DataW.trod_int hu h1;refine⟨a,?_,hw⟩;have h2:=congrArg List.head? e;simp[List.head?_take]at h2
  exact h2
 have keya:∀(i o:Nat),i < 5->DataW.trod enc Tryz.prog w base spare held n 23 ((cs.drop o).take 16)=xs[i]?->∃f:Nat->Int,(∀j,j < 16->cs[o+j]? = some (.int .u8 (f j)))/\∀j,j < 16->0<=f j/\f j < 256:=by
  intro i o hi h1;rw[List.getElem?_eq_getElem (by omega)]at h1;obtain⟨f,e,hb⟩:=open_b16 h1;refine⟨f,fun j hj=>?_,hb⟩;have:=e j hj
  rwa [List.getElem?_take,if_pos hj,List.getElem?_drop]at this
 have g0:DataW.trod enc Tryz.prog w base spare held n 3 ((cs.drop 0).take (Tryz.prog.cellsOf 3))=xs[0]?:=hg 0 _ rfl;have g1:DataW.trod enc Tryz.prog w base spare held n 3 ((cs.drop 1).take (Tryz.prog.cellsOf 3))=xs[1]?:=hg 1 _ rfl;have g3:DataW.trod enc Tryz.prog w base spare held n 35 ((cs.drop 2).take (Tryz.prog.cellsOf 35))=xs[2]?:=hg 2 _ rfl;have g4:DataW.trod enc Tryz.prog w base spare held n 23 ((cs.drop 3).take (Tryz.prog.cellsOf 23))=xs[3]?:=hg 3 _ rfl;have g5:DataW.trod enc Tryz.prog w base spare held n 23 ((cs.drop 19).take (Tryz.prog.cellsOf 23))=xs[4]?:=hg 4 _ rfl;rw[c3]at g0 g1;rw[c27]at g3;rw[c16]at g4 g5;obtain⟨a0,e0,w0⟩:=keyi 0 0 .i64 _ Tryz.underlying3 (by decide) g0;obtain⟨a1,e1,w1⟩:=keyi 1 1 .i64 _ Tryz.underlying3 (by decide) g1;obtain⟨f4,e4,r4⟩:=keya 3 3 (by decide) g4;obtain⟨f5,e5,r5⟩:=keya 4 19 (by decide) g5;obtain⟨v3,e3⟩:∃v,cs[2]? = some v:=⟨cs[2],List.getElem?_eq_getElem (by omega)⟩
 have h3:(cs.drop 2).take 1=[v3]:=by
  rw[List.drop_eq_getElem_cons (by omega),List.take_succ_cons,List.take_zero];rw[List.getElem?_eq_getElem (by omega)]at e3;rw[Option.some.inj e3]
 rw[h3,List.getElem?_eq_getElem (by omega)]at g3;obtain⟨A,len,cap,zs,rfl,hr⟩:=open_bytesR6 g3 hsp;have b0:=bounds_i64 w0;have b1:=bounds_i64 w1;have hu:=isRow_u8 hr;have hb0:-9223372036854775808<=a0/\a0<=9223372036854775807:=by omega
 have hb1:-9223372036854775808<=a1/\a1<=9223372036854775807:=by omega
 have hmx:len<=maxLen:=by rcases hr with ⟨_,h,_⟩ | ⟨_,_,h1,h2,_⟩<;>omega
 refine⟨⟨a0,a1,A,len,cap,fun j=>zs.getD j 0,f4,f5⟩,fun j hj=>?_,⟨hb0,hb1,hmx,hu.1,hu.2,r4,r5,isRow_row hr⟩⟩;unfold St6.cell;rcases (by omega:j=0\/j=1\/j=2\/(3<=j/\j < 19)\/(19<=j/\j < 35))with rfl | rfl | rfl | hj2 | hj2
 ·exact e0
 ·exact e1
 ·exact e3
 ·rw[if_neg (by omega),if_neg (by omega),if_neg (by omega),if_pos (by omega)];have:=e4 (j-3) (by omega)
  rwa [show 3+(j-3)=j by omega]at this
 ·rw[if_neg (by omega),if_neg (by omega),if_neg (by omega),if_neg (by omega)];have:=e5 (j-19) (by omega)
  rwa [show 19+(j-19)=j by omega]at this
theorem open_steps6 {fuel:Nat} {a:Option Addr} {len cap:Nat} {x:DataW H×List MemPlace}
  (h:DataW.trod enc Tryz.prog w base spare held fuel 53 [.slice a len cap] = some x) (hsp:∀b,spare b=true) :
  len<=maxLen/\len<=cap/\∃S,Steps6 w a len S:=by
 rcases Go.Deep.open_slice Tryz.underlying53 h with ⟨hcs,_⟩ | ⟨ad,l,c,m,n,D,Pl,hcs,_,hl,hm,hmm,_,hf⟩
 ·simp at hcs;obtain⟨rfl,rfl,rfl⟩:=hcs
  exact⟨by unfold maxLen;omega,Nat.le_refl _,fun _=>⟨0,0,none,0,0,fun _=>0,fun _=>0,fun _=>0⟩,⟨fun h=>absurd rfl h,fun k hk=>by omega⟩⟩
 ·simp at hcs;obtain⟨rfl,rfl,rfl⟩:=hcs;rw[if_pos (hsp _)]at hmm;subst hmm;have hc35:Tryz.prog.cellsOf 57 = 35:=by kernel_rfl
  rw[hc35]at hf;have h0:∀i,∃s:St6,i < len->(∀j,j < 35->w.cell? ((ad.add (i*35)).add j)=some (s.cell j))/\St6Ok w s:=fun i=>by
   by_cases hi:i < len
   ·obtain⟨cs',h1,h2⟩:=hf i (by omega);obtain⟨s,hs,hok⟩:=open_step6 h2 hsp;refine⟨s,fun _=>⟨fun j hj=>?_,hok⟩⟩;obtain⟨_,hlen,hcell⟩:=World.cells?_some h1;rw[hcell j hj,hs j hj]
   ·exact⟨⟨0,0,none,0,0,fun _=>0,fun _=>0,fun _=>0⟩,fun h=>absurd h hi⟩
  obtain⟨S,hS⟩:=Classical.axiomOfChoice h0;refine⟨by omega,hl,S,⟨fun hn=>?_,fun k hk=>(hS k hk).2⟩⟩;obtain⟨b,off,spot⟩:=ad;have c0:=(hS 0 (by omega)).1 0 (by decide);have hspot:spot=none:=by simpa[Addr.add]using World.cell?_spot c0
  subst hspot;have hadd:∀o j,(⟨b,o,none⟩:Addr).add j=⟨b,o+j,none⟩:=fun o j=>by unfold Addr.add;split<;>simp_all
  refine⟨b,off,rfl,?_,fun k hk j hj=>?_⟩
  ·rw[hadd,hadd]at c0
   exact World.block_lt_of_cell? w _ c0
  ·have:=(hS k hk).1 j hj;rw[hadd,hadd]at this
   exact this
end
def few6N (S:Nat->St6):Nat->Int
 | 0=>0
 | k+1=>wrap64 (few6N S k+(S k).n)
def few6B (m:Nat) (S:Nat->St6):Bool:=decide (m<=40) && decide (few6N S (min m 41)<=9300)
theorem few6N_range (S:Nat->St6):∀k,-9223372036854775808<=few6N S k/\few6N S k<=9223372036854775807
 | 0=>by unfold few6N;omega
 | k+1=>by unfold few6N wrap64;omega
theorem few46_ok (A:Option Addr) (m c:Nat) (S:Nat->St6) (w:World) (h:Steps6 w A m S) (hm:m<=maxLen) :
  Calls Tryz.prog 20 #[.slice A m c] w fun e w'=>e=.returned (.bool (few6B m S))/\Below w.heap.size w w':=by
 have H:=zh h;unfold maxLen at hm;clear h;go_enter Tryz.func20,Tryz.ntmps20;go_wp2;go_loopw [3,4] (fun v5 v6 wr=>∃k:Nat,k<=m/\k<=41/\v6=.int .i64 k/\v5=.int .i64 (few6N S k)/\Below w.heap.size w wr) (fun _ v6 _=>m-(intOf v6).toNat)
 case atStart=>exact⟨0,by omega,by omega,rfl,rfl,Below.refl _ _⟩
 case round=>
  obtain⟨k,hk,hk2,rfl,rfl,hb⟩:=hrel;have HB:=zh hb;clear hb;have k0:(0:Int)<=(k:Int):=by omega
  have k9:(k:Int)<=41:=by omega
  have hr:=few6N_range S k;have HN:Hid (few6N S (k+1)=wrap64 (few6N S k+(S k).n)):=zh rfl;by_cases hgo:k < m/\k<=40
  ·have d1:decide ((k:Int) < (m:Int))=true:=decide_eq_true (by omega);have d2:decide ((k:Int)<=40)=true:=decide_eq_true (by omega);have k1:(k:Int) < (m:Int):=by omega
   obtain⟨lb,lo,hA,hbl,hc⟩:=(H.out.below HB.out).at_ (by omega);have c3:wr.cell? ⟨lb,lo+k*35+2,none⟩=some (.slice (S k).A (S k).n (S k).c):=hc k hgo.1 2 (by decide);subst hA;clear hc;go_wp2;go_roundw
   case rel=>exact⟨k+1,by omega,by omega,by go_num,by rw[HN.out],HB.out⟩
   case measure=>simp[intOf];omega
  ·have hx:k=min m 41:=by omega
   have HF:Hid (few6B m S=(decide (m<=40) && decide (few6N S k<=9300))):=zh (by unfold few6B;rw[<-hx]);clear hx;by_cases hm2:m<=40
   ·have d1:decide ((k:Int) < (m:Int))=false:=decide_eq_false (by omega);have d3:decide ((m:Int)<=40)=true:=decide_eq_true (by omega);rw[decide_eq_true hm2,Bool.true_and]at HF;go_wp2;go_ret
    exact⟨ret_bool (by rw[HF.out]),HB.out⟩
   ·have d3:decide ((m:Int)<=40)=false:=decide_eq_false (by omega);have hkm:k=41:=by omega
    have d2:decide ((k:Int)<=40)=false:=decide_eq_false (by omega);clear hkm;rw[decide_eq_false hm2,Bool.false_and]at HF;rcases Nat.lt_or_ge k m with hc | hc
    ·have d1:decide ((k:Int) < (m:Int))=true:=decide_eq_true (by omega);go_wp2;go_ret
     exact⟨ret_bool (by rw[HF.out]),HB.out⟩
    ·have d1:decide ((k:Int) < (m:Int))=false:=decide_eq_false (by omega);go_wp2;go_ret
     exact⟨ret_bool (by rw[HF.out]),HB.out⟩
end Go.Proofs.YtnadmdadcpemnaaGreat
namespace Go.Proofs.YtnadmdadcpemnaaGreat
set_option linter.unusedVariables false
set_option linter.unusedSimpArgs false
open Go.RowKit
attribute [local go_sem ↓] Go.wp_at_zero Go.wp_at_succ
structure R6 where
 out:List SV
 err:Int
 s:RS
 U:List (Nat->Int)
def RS.call6 (s:RS) (U:List (Nat->Int)) (x:St6):R6:=
 if x.kind=1 then ⟨(s.receive x.now x.n (nf x.z)).1,(s.receive x.now x.n (nf x.z)).2.1,(s.receive x.now x.n (nf x.z)).2.2,U⟩
 else if x.kind=2 then ⟨(s.tick x.now).1,(s.tick x.now).2.1,(s.tick x.now).2.2,U⟩
 else if x.kind=3 then (if hasKey x.key U=true then ⟨[],461,s,U⟩ else ⟨[],0,s.rekeyed x.key x.code,U++[x.key]⟩)
 else ⟨[],0,s,U⟩
theorem timer_used (s:RS):s.timer.used=s.used:=by
 unfold RS.timer RS.start RS.stop
 (repeat' split)<;>rfl
theorem expire_used (s:RS):s.expire.2.used=s.used:=by
 unfold RS.expire
 split
 ·rfl
 ·exact timer_used _
theorem take_keep (s:RS) (n:Nat) (z:Nat->Nat):(s.take n z).2.2.used=s.used/\(s.take n z).2.2.dup<=s.dup+1/\(s.take n z).2.2.L.length<=s.L.length+1:=by
 have hi:∀(x:SV) (l:List SV),(insV x l).length=l.length+1:=fun x l=>by
  induction l with
  | nil=>rfl
  | cons y r ih=>
   unfold insV
   split
   ·simp
   ·simp[ih]
 have hs:s.used=s.used/\s.dup<=s.dup+1/\s.L.length<=s.L.length+1:=⟨rfl,by omega,by omega⟩
 unfold RS.take
 split
 ·exact hs
 split
 ·exact hs
 split
 ·exact hs
 split
 ·exact hs
 split
 ·exact hs
 split
 ·exact⟨rfl,Int.le_refl _,Nat.le_succ _⟩
 split
 ·exact hs
 split
 ·exact hs
 ·exact⟨rfl,by show s.dup<=s.dup+1;omega,by show(insV _ s.L).length<=_;rw[hi];exact Nat.le_refl _⟩
theorem recv_keep (s:RS) (t:Int) (n:Nat) (z:Nat->Nat):(s.receive t n z).2.2.C=s.C/\(s.receive t n z).2.2.used=s.used/\(s.receive t n z).2.2.dup<=s.dup+1/\(s.receive t n z).2.2.L.length<=s.L.length+1:=by
 unfold RS.receive
 split
 ·exact⟨rfl,rfl,by show s.dup<=s.dup+1;omega,by show s.L.length<=s.L.length+1;omega⟩
 ·obtain⟨a1,a2,a3⟩:=expire_keeps (s.at_ t);have a4:=expire_used (s.at_ t);have b1:=take_C (s.at_ t).expire.2 n z;obtain⟨b2,b3,b4⟩:=take_keep (s.at_ t).expire.2 n z;have e1:(s.at_ t).C=s.C/\(s.at_ t).used=s.used/\(s.at_ t).dup=s.dup/\(s.at_ t).L=s.L:=⟨rfl,rfl,rfl,rfl⟩
  rw[e1.1]at a1;rw[e1.2.2.1]at a2;rw[e1.2.2.2]at a3;rw[e1.2.1]at a4;simp only
  split
  ·obtain⟨c1,c2,c3,_⟩:=timer_keeps ((s.at_ t).expire.2.take n z).2.2.deliver_.2;have c4:=timer_used ((s.at_ t).expire.2.take n z).2.2.deliver_.2;have c5:=fromL_len ((s.at_ t).expire.2.take n z).2.2.L ((s.at_ t).expire.2.take n z).2.2.deliver;refine⟨c1.trans (b1.trans a1),c4.trans (b2.trans a4),?_,?_⟩
   ·show((s.at_ t).expire.2.take n z).2.2.deliver_.2.timer.dup<=_;rw[c2];show((s.at_ t).expire.2.take n z).2.2.dup<=_;rw[<-a2];exact b3
   ·show((s.at_ t).expire.2.take n z).2.2.deliver_.2.timer.L.length<=_;rw[c3];show(fromL ((s.at_ t).expire.2.take n z).2.2.L ((s.at_ t).expire.2.take n z).2.2.deliver).2.1.length<=_;omega
  ·exact⟨b1.trans a1,b2.trans a4,by rw[<-a2];exact b3,Nat.le_trans b4 (by omega)⟩
theorem tick_keep (s:RS) (t:Int):(s.tick t).2.2.C=s.C/\(s.tick t).2.2.used=s.used/\(s.tick t).2.2.dup=s.dup/\(s.tick t).2.2.L.length<=s.L.length:=by
 unfold RS.tick
 split
 ·exact⟨rfl,rfl,rfl,Nat.le_refl _⟩
 ·obtain⟨a1,a2,a3⟩:=expire_keeps (s.at_ t);have a4:=expire_used (s.at_ t);refine⟨a1,a4,a2,?_⟩;have:(s.at_ t).L=s.L:=rfl;rw[this]at a3;show(s.at_ t).expire.2.L.length<=_;omega
structure RI (k:Nat) (s:RS) (U:List (Nat->Int)):Prop where
 ok:s.C.Ok
 val:s.C.Valid
 cm:s.C.cm=false
 used:s.used=U.map kArr
 few:s.L.length<=k
 dup:s.dup<=k
theorem RI.fine {k:Nat} {s:RS} {U:List (Nat->Int)} (h:RI k s U) (hk:k<=250):RFine s:=⟨h.ok,h.val,h.cm,by have:=h.few;omega,by have:=h.dup;omega⟩
theorem RI.more {k k':Nat} {s:RS} {U:List (Nat->Int)} (h:RI k s U) (hk:k<=k'):RI k' s U:=⟨h.ok,h.val,h.cm,h.used,by have:=h.few;omega,by have:=h.dup;omega⟩
theorem RI.call {k:Nat} {s:RS} {U:List (Nat->Int)} (h:RI k s U) {w:World} {x:St6} (hx:St6Ok w x):RI (k+1) (s.call6 U x).s (s.call6 U x).U:=by
 have hf:=h.few;have hd:=h.dup;unfold RS.call6
 split
 ·obtain⟨a1,a2,a3,a4⟩:=recv_keep s x.now x.n (nf x.z)
  exact⟨by show(s.receive x.now x.n (nf x.z)).2.2.C.Ok;rw[a1];exact h.ok,by show(s.receive x.now x.n (nf x.z)).2.2.C.Valid;rw[a1];exact h.val,by show(s.receive x.now x.n (nf x.z)).2.2.C.cm=false;rw[a1];exact h.cm,a2.trans h.used,by show(s.receive x.now x.n (nf x.z)).2.2.L.length<=_;omega,by show(s.receive x.now x.n (nf x.z)).2.2.dup<=_;omega⟩
 split
 ·obtain⟨a1,a2,a3,a4⟩:=tick_keep s x.now
  exact⟨by show(s.tick x.now).2.2.C.Ok;rw[a1];exact h.ok,by show(s.tick x.now).2.2.C.Valid;rw[a1];exact h.val,by show(s.tick x.now).2.2.C.cm=false;rw[a1];exact h.cm,a2.trans h.used,by show(s.tick x.now).2.2.L.length<=_;omega,by show(s.tick x.now).2.2.dup<=_;omega⟩
 split
 ·split
  ·exact h.more (Nat.le_succ _)
  ·exact⟨⟨fun j hj=>hx.key j hj,fun j hj=>hx.code j hj⟩,h.val,h.cm,by show s.used++[kArr x.key] = (U++[x.key]).map kArr;rw[h.used,List.map_append];rfl,by show s.L.length<=_;omega,by show s.dup<=_;omega⟩
 ·exact h.more (Nat.le_succ _)
theorem infoSt6:(Tryz.prog.info? 57).map (·.size)=some 35:=by kernel_rfl
end Go.Proofs.YtnadmdadcpemnaaGreat
namespace Go.Proofs.YtnadmdadcpemnaaGreat
set_option linter.unusedVariables false
set_option linter.unusedSimpArgs false
open Go.RowKit
section
variable {w0 w w':World} {R R':Nat->Prop} {g g1 g2 g3:Nat} {W W1 W2 W3:Nat->Prop} {s s1 s2 s3:RS} {U:List (Nat->Int)} {k:Nat}
end
theorem out_same {V:World} {B B':Nat} {A A':Option Addr} {c c':Nat} {lo lo':List SE} {R R':Nat->Prop} (h:OutM V B A c lo) (h':OutM V B' A' c' lo') (he:lo.map (·.v)=lo'.map (·.v)) (hp:∀x,x∈lo->Pkt V R x.A x.v.n x.c x.v.z) (hp':∀x,x∈lo'->Pkt V R' x.A x.v.n x.c x.v.z):SameB V A A' lo.length:=fun k hk=>by
 have hl:lo.length=lo'.length:=by
  have:=congrArg List.length he;simpa using this
 have e1:lo[k]? = some lo[k]:=List.getElem?_eq_getElem hk;have e2:lo'[k]? = some (lo'[k]'(by omega)):=List.getElem?_eq_getElem (by omega);obtain⟨b,o,hA,hb⟩:=h.1.some_ (by omega);obtain⟨b',o',hA',hb'⟩:=h'.1.some_ (by omega);have c1:=h.1.cell hA (j:=k) (by omega);have c2:=h'.1.cell hA' (j:=k) (by omega);rw[List.getElem?_map,e1]at c1;rw[List.getElem?_map,e2]at c2;have hv:lo[k].v=(lo'[k]'(by omega)).v:=by
  have h:=congrArg (fun l=>l[k]?) he;simp only[List.getElem?_map,e1,e2,Option.map_some]at h
  exact Option.some.inj h
 have p1:=hp lo[k] (List.getElem_mem hk);have p2:=hp' (lo'[k]'(by omega)) (List.getElem_mem _);refine⟨lo[k].v.n,lo[k].v.z,lo[k].v.z,⟨b,o,lo[k].A,lo[k].c,hA,hb,c1,p1.row⟩,⟨b',o',(lo'[k]'(by omega)).A,(lo'[k]'(by omega)).c,hA',hb',by rw[hv];exact c2,by rw[hv];exact p2.row⟩,fun j hj=>rfl⟩
end Go.Proofs.YtnadmdadcpemnaaGreat

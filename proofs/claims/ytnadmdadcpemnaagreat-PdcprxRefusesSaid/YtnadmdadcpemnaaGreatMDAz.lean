import Derived.Test.YtnadmdadcpemnaaGreatMTBz
import Derived.Test.YtnadmdadcpemnaaGreatMZAz
import Derived.Maps.OwnSet
import Derived.BigRegion
namespace Go.Proofs.YtnadmdadcpemnaaGreat
open Go.RowKit
set_option linter.unusedVariables false
private theorem zh {p:Prop} (h:p):Go.RowKit.Hid p:=h
structure SV where
 ct:Int
 n:Nat
 z:Nat→Int
structure SE where
 v:SV
 A:Option Addr
 c:Nat
def SE.val (e:SE):Value:=.slice e.A e.v.n e.c
def RV (v:Value):Option (DataW Value×List MemPlace):=some (.held v,[])
def SE.kv (e:SE):Lit×DataW Value:=(.int .u64 e.v.ct,.held e.val)
theorem keyU:Maps.Keyed Tryz.prog 43:=Maps.int_keyed Tryz.underlying43
theorem keyU_at {f:Int} (h0:0≤f) (h1:f < 18446744073709551616):keyOf Tryz.prog 43 (.int .u64 f)=some (.int .u64 f):=Maps.keyOf_int_mk Tryz.underlying43 (by
 have e1:IntKind.u64.min=0:=rfl
 have e2:IntKind.u64.max=18446744073709551615:=rfl
 simp[Lit.wf,e1,e2];omega)
def Rising (l:List SE):Prop:=l.Pairwise fun a b=>a.v.ct < b.v.ct
def SM (w:World) (m:Nat) (l:List SE):Prop:=w.ownsMap Tryz.prog 43 RV m l.length (.map (l.map SE.kv))
theorem own_tight {w:World} {P:Program} {k:TypeId} {R:Value→Option (DataW Value×List MemPlace)} {b n:Nat} {es:List (Lit×DataW Value)} (h:w.ownsMap P k R b n (.map es)):w.ownsMap P k R b es.length (.map es):=by
 obtain⟨e,c,h1,h2,h3,h4⟩:=h
 refine⟨e,c,h1,h2,?_,h4⟩
 have:es=(e.toList.map (WideElems.rg P k R)).foldr DataW.insert []:=by injection h4
 rw[this,length_sorted]
 simp
theorem SM.of {w:World} {m n:Nat} {l:List SE} (h:w.ownsMap Tryz.prog 43 RV m n (.map (l.map SE.kv))):SM w m l:=by
 have:=own_tight h
 rwa [List.length_map]at this
theorem SM.lt {w:World} {m:Nat} {l:List SE} (h:SM w m l):m < w.heap.size:=World.ownsMap.lt h
theorem SM.keepF {F:Nat→Prop} {w w':World} {m:Nat} {l:List SE} (h:SM w m l) (hk:KeepF F w w') (hF:¬F m):SM w' m l:=by
 have hl:=h.lt
 obtain⟨e,c,h1,h2⟩:=h
 exact⟨e,c,(hk.block m hl hF).trans h1,h2⟩
theorem SM.below {w w':World} {B m:Nat} {l:List SE} (h:SM w m l) (hb:Below B w w') (hm:m < B):SM w' m l:=by
 obtain⟨e,c,h1,h2⟩:=h
 exact⟨e,c,(hb.block m hm).trans h1,h2⟩
theorem SM.made (w:World):SM (w.alloc (.map #[] 0)) w.heap.size []:=World.ownsMap_made w _ _ _
def findS (f:Int) (l:List SE):Option SE:=l.find? fun e=>decide (e.v.ct=f)
def delS (f:Int) (l:List SE):List SE:=l.filter fun e=>!decide (e.v.ct=f)
def insS (x:SE):List SE→List SE
 | []=>[x]
 | y :: r=>if x.v.ct < y.v.ct then x :: y :: r else y :: insS x r
theorem key_same (e:SE) (f:Int):(SE.kv e).1.sameKey (.int .u64 f)=decide (e.v.ct=f):=by
 show decide (IntKind.u64=IntKind.u64∧e.v.ct=f)=_
 simp
theorem atKey_list (f:Int) (z:DataW Value):∀l:List SE,(DataW.map (l.map SE.kv)).atKey (.int .u64 f) z=(match findS f l with | some e=>.held e.val | none=>z)
 | []=>rfl
 | e :: r=>by
  have ih:=atKey_list f z r
  unfold DataW.atKey findS at ih ⊢
  simp only[List.map_cons,List.find?_cons,key_same]
  by_cases h:e.v.ct=f
  ·simp[h,SE.kv]
  ·simp only[h,decide_false]
   exact ih
theorem has_list (f:Int):∀l:List SE,Maps.has (DataW.map (l.map SE.kv)) (.int .u64 f)=(findS f l).isSome
 | []=>rfl
 | e :: r=>by
  have ih:=has_list f r
  rw[Maps.has_eq]at ih ⊢
  unfold findS at ih ⊢
  simp only[List.map_cons,List.any_cons,List.find?_cons,key_same]
  by_cases h:e.v.ct=f
  ·simp[h]
  ·simp only[h,decide_false,Bool.false_or]
   exact ih
theorem del_list (f:Int) (l:List SE):(DataW.map (l.map SE.kv)).del (.int .u64 f)=.map ((delS f l).map SE.kv):=by
 unfold DataW.del delS
 simp only
 rw[List.filter_map]
 congr 2
 apply List.filter_congr
 intro e _
 show(!(SE.kv e).1.sameKey _)=_
 rw[key_same]
theorem ins_list (x:SE):∀l:List SE,DataW.insert (SE.kv x) (l.map SE.kv)=(insS x l).map SE.kv
 | []=>rfl
 | y :: r=>by
  have hb:(SE.kv x).1.before (SE.kv y).1=decide (x.v.ct < y.v.ct):=rfl
  unfold insS
  rw[List.map_cons]
  unfold DataW.insert
  rw[hb]
  by_cases h:x.v.ct < y.v.ct
  ·simp[h]
  ·simp only[h,decide_false]
   rw[ins_list x r]
   simp
theorem findS_none_iff {f:Int} {l:List SE}:findS f l=none↔∀e,e∈l→e.v.ct ≠ f:=by
 unfold findS
 simp
theorem findS_some {f:Int} {l:List SE} {e:SE} (h:findS f l=some e):e∈l∧e.v.ct=f:=by
 unfold findS at h
 exact⟨List.mem_of_find?_eq_some h,by simpa using List.find?_some h⟩
theorem delS_none {f:Int} {l:List SE} (h:findS f l=none):delS f l=l:=by
 unfold delS
 rw[List.filter_eq_self]
 intro e he
 simp[findS_none_iff.1 h e he]
theorem put_list (x:SE) (l:List SE) (h:findS x.v.ct l=none):(DataW.map (l.map SE.kv)).put (.int .u64 x.v.ct) (.held x.val)=.map ((insS x l).map SE.kv):=by
 have e:=del_list x.v.ct l
 rw[delS_none h]at e
 unfold DataW.put
 unfold DataW.del at e
 simp only at e ⊢
 injection e with e
 rw[e]
 congr 1
 exact ins_list x l
theorem insS_len (x:SE):∀l:List SE,(insS x l).length=l.length+1
 | []=>rfl
 | y :: r=>by
  unfold insS
  split
  ·rfl
  ·rw[List.length_cons,insS_len x r,List.length_cons]
theorem insS_mem (x:SE):∀(l:List SE) (e:SE),e∈insS x l↔e=x∨e∈l
 | [],e=>by simp[insS]
 | y :: r,e=>by
  unfold insS
  split
  ·simp
  ·simp only[List.mem_cons,insS_mem x r e]
   exact⟨fun h=>by rcases h with h | h | h<;>simp[h],fun h=>by rcases h with h | h | h<;>simp[h]⟩
theorem insS_rising {x:SE}:∀{l:List SE},Rising l→findS x.v.ct l=none→Rising (insS x l)
 | [],_,_=>by simp[insS,Rising]
 | y :: r,h,hn=>by
  have h1:(∀e,e∈r→y.v.ct < e.v.ct)∧Rising r:=List.pairwise_cons.1 h
  have hy:y.v.ct ≠ x.v.ct:=findS_none_iff.1 hn y (by simp)
  have hr:findS x.v.ct r=none:=findS_none_iff.2 fun e he=>findS_none_iff.1 hn e (by simp[he])
  unfold insS
  split
  ·rename_i hlt
   refine List.pairwise_cons.2 ⟨fun e he=>?_,h⟩
   rcases List.mem_cons.1 he with rfl | he
   ·exact hlt
   ·have:=h1.1 e he;omega
  ·rename_i hlt
   refine List.pairwise_cons.2 ⟨fun e he=>?_,insS_rising h1.2 hr⟩
   rcases (insS_mem x r e).1 he with rfl | he
   ·omega
   ·exact h1.1 e he
theorem findS_head {f:Int} {e:SE} {r:List SE} (h:Rising (e :: r)) (hf:∀x,x∈e :: r→f≤x.v.ct):findS f (e :: r)=if e.v.ct=f then some e else none:=by
 unfold findS
 rw[List.find?_cons]
 by_cases h1:e.v.ct=f
 ·simp[h1]
 ·simp only[h1,decide_false,if_neg,not_false_iff]
  refine List.find?_eq_none.2 fun x hx=>?_
  have h2:e.v.ct < x.v.ct:=(List.pairwise_cons.1 h).1 x hx
  have h3:=hf e (by simp)
  simp
  omega
theorem delS_head {e:SE} {r:List SE} (h:Rising (e :: r)):delS e.v.ct (e :: r)=r:=by
 unfold delS
 rw[List.filter_cons]
 simp only[decide_true,Bool.not_true,Bool.false_eq_true,if_false]
 rw[List.filter_eq_self]
 intro x hx
 have h2:e.v.ct < x.v.ct:=(List.pairwise_cons.1 h).1 x hx
 simp
 omega
theorem smap_get {w:World} {m:Nat} {l:List SE} (h:SM w m l) {f:Int} (h0:0≤f) (h1:f < 18446744073709551616) :
  (Instr.lookup 78 (.map (some m)) (.int .u64 f) true).run Tryz.prog w=.ok (.tuple #[(match findS f l with | some e=>e.val | none=>.slice none 0 0),.bool (findS f l).isSome]) w:=by
 have hz:(zeroValue 35).run Tryz.prog w=.ok (.slice none 0 0) w:=by kernel_rfl
 obtain⟨v,ps,hrun,hv⟩:=World.ownsMap.look_ok h keyU Tryz.underlying78 hz (zd:=.held (.slice none 0 0)) (zp:=[]) rfl (keyU_at h0 h1)
 rw[has_list]at hrun
 rw[atKey_list]at hv
 have:v=(match findS f l with | some e=>e.val | none=>.slice none 0 0):=by
  unfold RV at hv
  simp only[Option.some.injEq,Prod.mk.injEq]at hv
  cases hfs:findS f l with
  | none=>rw[hfs]at hv;have:=hv.1;simp only[DataW.held.injEq]at this;exact this
  | some e=>rw[hfs]at hv;have:=hv.1;simp only[DataW.held.injEq]at this;exact this
 rw[hrun,this]
theorem smap_at {w:World} {m:Nat} {l:List SE} (h:SM w m l) {f:Int} (h0:0≤f) (h1:f < 18446744073709551616) {e:SE} (he:findS f l=some e) :
  (Instr.lookup 78 (.map (some m)) (.int .u64 f) false).run Tryz.prog w=.ok e.val w:=by
 have hz:(zeroValue 35).run Tryz.prog w=.ok (.slice none 0 0) w:=by kernel_rfl
 obtain⟨v,ps,hrun,hv⟩:=World.ownsMap.lookup h keyU Tryz.underlying78 hz (zd:=.held (.slice none 0 0)) (zp:=[]) rfl (keyU_at h0 h1)
 rw[atKey_list,he]at hv
 unfold RV at hv
 simp only[Option.some.injEq,Prod.mk.injEq,DataW.held.injEq]at hv
 rw[hrun,hv.1]
theorem KeepF.of_turned {w w':World} {b:Nat} (h:w.mapTurned w' b):KeepF (fun k=>k=b) w w':=KeepF.of_row h.grown rfl
theorem smap_del {w:World} {m:Nat} {l:List SE} (h:SM w m l) {f:Int} (h0:0≤f) (h1:f < 18446744073709551616) (ty:TypeId) :
  ∃w',(Builtin.delete_ #[78,43] ty #[.map (some m),.int .u64 f]).run Tryz.prog w=.ok (.tuple #[]) w'∧SM w' m (delS f l)∧KeepF (fun k=>k=m) w w':=by
 obtain⟨w',hrun,h2,h3⟩:=World.ownsMap.drop h keyU Tryz.underlying78 (keyU_at h0 h1) ty
 rw[del_list]at h2
 exact⟨w',hrun,SM.of h2,KeepF.of_turned h3⟩
theorem smap_put {w:World} {m:Nat} {l:List SE} (h:SM w m l) (x:SE) (h0:0≤x.v.ct) (h1:x.v.ct < 18446744073709551616) (hn:findS x.v.ct l=none) (hl:l.length < maxLen) :
  ∃w',(Instr.mapUpdate 78 (.map (some m)) (.int .u64 x.v.ct) x.val).run Tryz.prog w=.ok () w'∧SM w' m (insS x l)∧KeepF (fun k=>k=m) w w':=by
 obtain⟨w',hrun,h2,h3⟩:=World.ownsMap.store h keyU Tryz.underlying78 hl (keyU_at h0 h1) (val:=x.val) (d:=.held x.val) (ps:=[]) rfl
 rw[put_list x l hn]at h2
 exact⟨w',hrun,SM.of h2,KeepF.of_turned h3⟩
end Go.Proofs.YtnadmdadcpemnaaGreat
namespace Go.Proofs.YtnadmdadcpemnaaGreat
open Go.RowKit
set_option linter.unusedVariables false
def rTail (now d nx:Int) (sb:Nat) (run:Bool) (lim ex:Int) (ub eb:Nat) (dup:Int):Array Value:=#[.bool true,.int .i64 now,.int .u64 d,.int .u64 nx,.map (some sb),.bool run,.int .u64 lim,.int .i64 ex,.map (some ub),.pointer (some ⟨eb,0,none⟩),.slice none 0 0,.int .i64 dup]
def rArr (C:Array Value) (now d nx:Int) (sb:Nat) (run:Bool) (lim ex:Int) (ub eb:Nat) (dup:Int):Array Value:=C++rTail now d nx sb run lim ex ub eb dup
section
variable {C:Array Value} {now d nx:Int} {sb:Nat} {run:Bool} {lim ex:Int} {ub eb:Nat} {dup:Int}
theorem rArr_low (hC:C.size=39) {j:Nat} (hj:j < 39):(rArr C now d nx sb run lim ex ub eb dup)[j]? = C[j]?:=by
 unfold rArr
 rw[Array.getElem?_append_left (by omega)]
theorem rArr_high (hC:C.size=39) (j:Nat):(rArr C now d nx sb run lim ex ub eb dup)[39+j]? = (rTail now d nx sb run lim ex ub eb dup)[j]?:=by
 unfold rArr
 rw[Array.getElem?_append_right (by omega),hC,show 39+j-39=j by omega]
theorem rArr_set (hC:C.size=39) (j:Nat) (v:Value):(rArr C now d nx sb run lim ex ub eb dup).setIfInBounds (39+j) v=C++(rTail now d nx sb run lim ex ub eb dup).setIfInBounds j v:=by
 unfold rArr
 rw[Array.setIfInBounds_append_right (by omega),hC,show 39+j-39=j by omega]
theorem rArr_now (hC:C.size=39) (x:Int):(rArr C now d nx sb run lim ex ub eb dup).setIfInBounds 40 (.int .i64 x)=rArr C x d nx sb run lim ex ub eb dup:=rArr_set hC 1 _
theorem rArr_deliver (hC:C.size=39) (x:Int):(rArr C now d nx sb run lim ex ub eb dup).setIfInBounds 41 (.int .u64 x)=rArr C now x nx sb run lim ex ub eb dup:=rArr_set hC 2 _
theorem rArr_next (hC:C.size=39) (x:Int):(rArr C now d nx sb run lim ex ub eb dup).setIfInBounds 42 (.int .u64 x)=rArr C now d x sb run lim ex ub eb dup:=rArr_set hC 3 _
theorem rArr_run (hC:C.size=39) (x:Bool):(rArr C now d nx sb run lim ex ub eb dup).setIfInBounds 44 (.bool x)=rArr C now d nx sb x lim ex ub eb dup:=rArr_set hC 5 _
theorem rArr_lim (hC:C.size=39) (x:Int):(rArr C now d nx sb run lim ex ub eb dup).setIfInBounds 45 (.int .u64 x)=rArr C now d nx sb run x ex ub eb dup:=rArr_set hC 6 _
theorem rArr_ex (hC:C.size=39) (x:Int):(rArr C now d nx sb run lim ex ub eb dup).setIfInBounds 46 (.int .i64 x)=rArr C now d nx sb run lim x ub eb dup:=rArr_set hC 7 _
theorem rArr_dup (hC:C.size=39) (x:Int):(rArr C now d nx sb run lim ex ub eb dup).setIfInBounds 50 (.int .i64 x)=rArr C now d nx sb run lim ex ub eb x:=rArr_set hC 11 _
end
structure RS where
 C:Cfg
 now:Int
 deliver:Int
 next:Int
 L:List SV
 run:Bool
 limit:Int
 expiry:Int
 used:List (Array Value)
 exp:Obj
 dup:Int
structure RS.Ok (s:RS):Prop where
 now:0≤s.now∧s.now < 1073741824
 deliver:0≤s.deliver∧s.deliver≤s.next
 next:s.next≤4294967296
 limit:0≤s.limit∧s.limit≤s.next
 expiry:0≤s.expiry∧s.expiry≤2147483648
 dup:0≤s.dup∧s.dup < 4611686018427387904
structure RxM (w:World) (g:Nat) (s:RS) (W R:Nat→Prop) (sb:Nat) (l:List SE) (ub eb:Nat):Prop where
 blk:Blk w g 83 (rArr s.C.arr s.now s.deliver s.next sb s.run s.limit s.expiry ub eb s.dup)
 lv:l.map (·.v)=s.L
 st:SM w sb l
 ris:Rising l
 rng:∀e,e∈l→s.deliver≤e.v.ct∧e.v.ct < s.next
 u:UK w ub s.used
 x:w.heap[eb]? = some s.exp
 pk:∀e,e∈l→Pkt w R e.A e.v.n e.c e.v.z
 ok:s.Ok
 wg:W g
 ws:W sb
 wu:W ub
 wx:W eb
 xg:eb ≠ g
 xs:eb ≠ sb
 xu:eb ≠ ub
 su:sb ≠ ub
 dis:∀k,W k→R k→False
 win:∀k,W k→k < w.heap.size
 rin:∀k,R k→k < w.heap.size
section
variable {w w':World} {g:Nat} {s:RS} {W R R' F:Nat→Prop} {sb:Nat} {l:List SE} {ub eb:Nat}
theorem RxM.gs (h:RxM w g s W R sb l ub eb):g ≠ sb:=by
 obtain⟨es,c,h1,_⟩:=h.st
 exact map_ne h.blk h1
theorem RxM.gu (h:RxM w g s W R sb l ub eb):g ≠ ub:=by
 obtain⟨es,c,h1,_⟩:=h.u
 exact map_ne h.blk h1
theorem RxM.keepF (h:RxM w g s W R sb l ub eb) (hk:KeepF F w w') (hF:∀k,F k→¬W k∧¬R k):RxM w' g s W R sb l ub eb:=
 ⟨hk.blk h.blk (fun hf=>(hF _ hf).1 h.wg),h.lv,h.st.keepF hk (fun hf=>(hF _ hf).1 h.ws),h.ris,h.rng,h.u.keep (hk.block _ h.u.lt (fun hf=>(hF _ hf).1 h.wu)),
  (hk.block _ (h.win _ h.wx) (fun hf=>(hF _ hf).1 h.wx)).trans h.x,fun e he=>(h.pk e he).keep hk (fun k hf=>(hF k hf).2),h.ok,h.wg,h.ws,h.wu,h.wx,h.xg,h.xs,h.xu,h.su,h.dis,
  fun k hk'=>Nat.lt_of_lt_of_le (h.win k hk') hk.size,fun k hk'=>Nat.lt_of_lt_of_le (h.rin k hk') hk.size⟩
theorem RxM.below (h:RxM w g s W R sb l ub eb) (hb:Below w.heap.size w w'):RxM w' g s W R sb l ub eb:=
 h.keepF (F:=fun _=>False) (KeepF.of_below hb) (fun _ hf=>hf.elim)
theorem RxM.hi (h:RxM w g s W R sb l ub eb) (j:Nat):w.cell? ⟨g,39+j,none⟩=(rTail s.now s.deliver s.next sb s.run s.limit s.expiry ub eb s.dup)[j]?:=(h.blk.cell (39+j)).trans (rArr_high s.C.arr_size j)
theorem RxM.made (h:RxM w g s W R sb l ub eb):w.cell? ⟨g,39,none⟩=some (.bool true):=h.hi 0
theorem RxM.cnow (h:RxM w g s W R sb l ub eb):w.cell? ⟨g,40,none⟩=some (.int .i64 s.now):=h.hi 1
theorem RxM.cdeliver (h:RxM w g s W R sb l ub eb):w.cell? ⟨g,41,none⟩=some (.int .u64 s.deliver):=h.hi 2
theorem RxM.cnext (h:RxM w g s W R sb l ub eb):w.cell? ⟨g,42,none⟩=some (.int .u64 s.next):=h.hi 3
theorem RxM.cs (h:RxM w g s W R sb l ub eb):w.cell? ⟨g,43,none⟩=some (.map (some sb)):=h.hi 4
theorem RxM.crun (h:RxM w g s W R sb l ub eb):w.cell? ⟨g,44,none⟩=some (.bool s.run):=h.hi 5
theorem RxM.climit (h:RxM w g s W R sb l ub eb):w.cell? ⟨g,45,none⟩=some (.int .u64 s.limit):=h.hi 6
theorem RxM.cexpiry (h:RxM w g s W R sb l ub eb):w.cell? ⟨g,46,none⟩=some (.int .i64 s.expiry):=h.hi 7
theorem RxM.cdup (h:RxM w g s W R sb l ub eb):w.cell? ⟨g,50,none⟩=some (.int .i64 s.dup):=h.hi 11
theorem RxM.cC (h:RxM w g s W R sb l ub eb) {j:Nat} (hj:j < 39):w.cell? ⟨g,j,none⟩=some (s.C.cell j):=(h.blk.cell j).trans ((rArr_low s.C.arr_size hj).trans (s.C.arr_at hj))
theorem RxM.fr (h:RxM w g s W R sb l ub eb) (j:Nat):w.frozen? ⟨g,j,none⟩=false:=h.blk.frozen j
theorem RxM.one {s':RS} (h:RxM w g s W R sb l ub eb) (hk:KeepF (fun k=>k=g) w w') (hb:Blk w' g 83 (rArr s'.C.arr s'.now s'.deliver s'.next sb s'.run s'.limit s'.expiry ub eb s'.dup))
  (hL:s'.L=s.L) (hU:s'.used=s.used) (hX:s'.exp=s.exp) (hr:∀e,e∈l→s'.deliver≤e.v.ct∧e.v.ct < s'.next) (hok:s'.Ok):RxM w' g s' W R sb l ub eb:=
 ⟨hb,h.lv.trans hL.symm,h.st.keepF hk (fun e=>h.gs e.symm),h.ris,hr,by rw[hU];exact h.u.keep (hk.block _ h.u.lt (fun e=>h.gu e.symm)),by rw[hX];exact(hk.block _ (h.win _ h.wx) h.xg).trans h.x,
  fun e he=>(h.pk e he).keep hk (fun k e2 hr=>h.dis k (e2 ▸ h.wg) hr),hok,h.wg,h.ws,h.wu,h.wx,h.xg,h.xs,h.xu,h.su,h.dis,fun k hw=>Nat.lt_of_lt_of_le (h.win k hw) hk.size,fun k hw=>Nat.lt_of_lt_of_le (h.rin k hw) hk.size⟩
theorem keep_set (w:World) (g j:Nat) (v:Value):KeepF (fun k=>k=g) w (w.setCell ⟨g,j,none⟩ v):=(KeepF.refl (F:=fun k=>k=g)).setCell (p:=⟨g,j,none⟩) rfl _
theorem RxM.setNow (h:RxM w g s W R sb l ub eb) (x:Int) (hx:0≤x∧x < 1073741824):RxM (w.setCell ⟨g,40,none⟩ (.int .i64 x)) g { s with now:=x } W R sb l ub eb:=
 h.one (keep_set w g 40 _) (by have:=h.blk.set_ 40 (.int .i64 x);rwa [rArr_now s.C.arr_size]at this) rfl rfl rfl h.rng ⟨hx,h.ok.deliver,h.ok.next,h.ok.limit,h.ok.expiry,h.ok.dup⟩
theorem RxM.setDeliver (h:RxM w g s W R sb l ub eb) (x:Int) (hx:0≤x∧x≤s.next) (hr:∀e,e∈l→x≤e.v.ct):RxM (w.setCell ⟨g,41,none⟩ (.int .u64 x)) g { s with deliver:=x } W R sb l ub eb:=
 h.one (keep_set w g 41 _) (by have:=h.blk.set_ 41 (.int .u64 x);rwa [rArr_deliver s.C.arr_size]at this) rfl rfl rfl (fun e he=>⟨hr e he,(h.rng e he).2⟩) ⟨h.ok.now,hx,h.ok.next,h.ok.limit,h.ok.expiry,h.ok.dup⟩
theorem RxM.setNext (h:RxM w g s W R sb l ub eb) (x:Int) (hx:s.next≤x∧x≤4294967296):RxM (w.setCell ⟨g,42,none⟩ (.int .u64 x)) g { s with next:=x } W R sb l ub eb:=
 h.one (keep_set w g 42 _) (by have:=h.blk.set_ 42 (.int .u64 x);rwa [rArr_next s.C.arr_size]at this) rfl rfl rfl (fun e he=>⟨(h.rng e he).1,Int.lt_of_lt_of_le (h.rng e he).2 hx.1⟩) ⟨h.ok.now,⟨h.ok.deliver.1,Int.le_trans h.ok.deliver.2 hx.1⟩,hx.2,⟨h.ok.limit.1,Int.le_trans h.ok.limit.2 hx.1⟩,h.ok.expiry,h.ok.dup⟩
theorem RxM.setRun (h:RxM w g s W R sb l ub eb) (x:Bool):RxM (w.setCell ⟨g,44,none⟩ (.bool x)) g { s with run:=x } W R sb l ub eb:=
 h.one (keep_set w g 44 _) (by have:=h.blk.set_ 44 (.bool x);rwa [rArr_run s.C.arr_size]at this) rfl rfl rfl h.rng ⟨h.ok.now,h.ok.deliver,h.ok.next,h.ok.limit,h.ok.expiry,h.ok.dup⟩
theorem RxM.setLimit (h:RxM w g s W R sb l ub eb) (x:Int) (hx:0≤x∧x≤s.next):RxM (w.setCell ⟨g,45,none⟩ (.int .u64 x)) g { s with limit:=x } W R sb l ub eb:=
 h.one (keep_set w g 45 _) (by have:=h.blk.set_ 45 (.int .u64 x);rwa [rArr_lim s.C.arr_size]at this) rfl rfl rfl h.rng ⟨h.ok.now,h.ok.deliver,h.ok.next,hx,h.ok.expiry,h.ok.dup⟩
theorem RxM.setExpiry (h:RxM w g s W R sb l ub eb) (x:Int) (hx:0≤x∧x≤2147483648):RxM (w.setCell ⟨g,46,none⟩ (.int .i64 x)) g { s with expiry:=x } W R sb l ub eb:=
 h.one (keep_set w g 46 _) (by have:=h.blk.set_ 46 (.int .i64 x);rwa [rArr_ex s.C.arr_size]at this) rfl rfl rfl h.rng ⟨h.ok.now,h.ok.deliver,h.ok.next,h.ok.limit,hx,h.ok.dup⟩
theorem RxM.setDup (h:RxM w g s W R sb l ub eb) (x:Int) (hx:0≤x∧x < 4611686018427387904):RxM (w.setCell ⟨g,50,none⟩ (.int .i64 x)) g { s with dup:=x } W R sb l ub eb:=
 h.one (keep_set w g 50 _) (by have:=h.blk.set_ 50 (.int .i64 x);rwa [rArr_dup s.C.arr_size]at this) rfl rfl rfl h.rng ⟨h.ok.now,h.ok.deliver,h.ok.next,h.ok.limit,h.ok.expiry,hx⟩
theorem RxM.moreR (h:RxM w g s W R sb l ub eb) (hR:∀k,R k→R' k) (hd:∀k,W k→R' k→False) (hr:∀k,R' k→k < w.heap.size):RxM w g s W R' sb l ub eb:=
 ⟨h.blk,h.lv,h.st,h.ris,h.rng,h.u,h.x,fun e he=>(h.pk e he).mono hR,h.ok,h.wg,h.ws,h.wu,h.wx,h.xg,h.xs,h.xu,h.su,hd,h.win,hr⟩
theorem RxM.setMap {s':RS} {l':List SE} (h:RxM w g s W R sb l ub eb) (hk:KeepF (fun k=>k=sb) w w') (hm:SM w' sb l') (hr:Rising l') (hs:s'={ s with L:=l'.map (·.v) }) (hg:∀e,e∈l'→s.deliver≤e.v.ct∧e.v.ct < s.next)
  (hp:∀e,e∈l'→Pkt w R e.A e.v.n e.c e.v.z):RxM w' g s' W R sb l' ub eb:=by
 subst hs
 exact⟨hk.blk h.blk (fun e=>h.gs e),rfl,hm,hr,hg,h.u.keep (hk.block _ h.u.lt (fun e=>h.su e.symm)),(hk.block _ (h.win _ h.wx) h.xs).trans h.x,
  fun e he=>(hp e he).keep hk (fun k e2 hr=>h.dis k (e2 ▸ h.ws) hr),⟨h.ok.now,h.ok.deliver,h.ok.next,h.ok.limit,h.ok.expiry,h.ok.dup⟩,h.wg,h.ws,h.wu,h.wx,h.xg,h.xs,h.xu,h.su,h.dis,fun k hw=>Nat.lt_of_lt_of_le (h.win k hw) hk.size,fun k hw=>Nat.lt_of_lt_of_le (h.rin k hw) hk.size⟩
end
theorem rising_len:∀{l:List SE} {a b:Int},Rising l→(∀e,e∈l→a≤e.v.ct∧e.v.ct < b)→a≤b→(l.length:Int)≤b-a
 | [],a,b,_,_,h=>by simp;omega
 | e :: r,a,b,h,hr,hab=>by
  have h1:(∀x,x∈r→e.v.ct < x.v.ct)∧Rising r:=List.pairwise_cons.1 h
  have he:=hr e (by simp)
  have:=rising_len (l:=r) (a:=e.v.ct+1) (b:=b) h1.2 (fun x hx=>⟨by have:=h1.1 x hx;omega,(hr x (by simp[hx])).2⟩) (by omega)
  rw[List.length_cons]
  omega
theorem RxM.few {w:World} {g:Nat} {s:RS} {W R:Nat→Prop} {sb:Nat} {l:List SE} {ub eb:Nat} (h:RxM w g s W R sb l ub eb):l.length < maxLen:=by
 have h1:=rising_len h.ris h.rng h.ok.deliver.2
 have h2:=h.ok.next
 have h3:=h.ok.deliver.1
 unfold maxLen
 omega
end Go.Proofs.YtnadmdadcpemnaaGreat
namespace Go.Proofs.YtnadmdadcpemnaaGreat
open Go.RowKit
set_option linter.unusedVariables false
def fromL:List SV→Int→List SV×List SV×Int
 | [],d=>([],[],d)
 | e :: r,d=>if e.ct=d then (e :: (fromL r (d+1)).1,(fromL r (d+1)).2) else ([],e :: r,d)
def RS.deliver_ (s:RS):List SV×RS:=((fromL s.L s.deliver).1,{ s with L:=(fromL s.L s.deliver).2.1,deliver:=(fromL s.L s.deliver).2.2 })
def RS.stop (s:RS):RS:=if s.run=true∧s.limit≤s.deliver then { s with run:=false } else s
def RS.start (s:RS):RS:=if s.run=false∧0 < s.C.ro∧s.deliver < s.next then { s with run:=true,limit:=s.next,expiry:=s.now+s.C.ro } else s
def RS.timer (s:RS):RS:=s.stop.start
def lowL (k:Int) (l:List SV):List SV:=l.filter fun e=>decide (e.ct < k)
def highL (k:Int) (l:List SV):List SV:=l.filter fun e=>!decide (e.ct < k)
def RS.cut (s:RS):RS:={ s with run:=false,L:=highL s.limit s.L,deliver:=max s.deliver s.limit }
def RS.expire (s:RS):List SV×RS:=if s.run=false∨s.now < s.expiry then ([],s) else (lowL s.limit s.L++s.cut.deliver_.1,s.cut.deliver_.2.timer)
def RS.at_ (s:RS) (t:Int):RS:={ s with now:=max s.now t }
def RS.tick (s:RS) (t:Int):List SV×Int×RS:=if 1073741824≤t then ([],2,s) else ((s.at_ t).expire.1,0,(s.at_ t).expire.2)
def cntH (d sn:Int):Int:=if sn+2048 < d % 4096 then d / 4096+1 else if d % 4096+2048≤sn then d / 4096-1 else d / 4096
def cntOf (d sn:Int):Option Int:=if 0≤cntH d sn∧cntH d sn < 1048576 then some (cntH d sn*4096+sn) else none
def Cfg.least (c:Cfg):Nat:=if c.ig=true then 6 else 2
def dataN (c:Cfg) (n:Nat):Nat:=n-c.least
def dataZ (c:Cfg) (ct:Nat) (z:Nat→Nat):Nat→Nat:=cryF (nf c.key) ct c.b.toNat c.d.toNat (fun j=>z (2+j))
def wantM (c:Cfg) (ct n:Nat) (z:Nat→Nat):Nat:=codeF (nf c.code) ct c.b.toNat c.d.toNat (catF z 2 (dataZ c ct z)) (2+dataN c n)
def hasM (c:Cfg) (ct n:Nat) (z:Nat→Nat):Nat:=let f:=fun j=>dataZ c ct z (dataN c n+j);f 0*16777216+f 1*65536+f 2*256+f 3
def codeOk (c:Cfg) (ct n:Nat) (z:Nat→Nat):Bool:=!c.ig || decide (wantM c ct n z=hasM c ct n z)
def snOf (z:Nat→Nat):Nat:=z 0 % 16*256+z 1
def stored (L:List SV) (ct:Int):Bool:=L.any fun e=>decide (e.ct=ct)
def insV (x:SV):List SV→List SV
 | []=>[x]
 | y :: r=>if x.ct < y.ct then x :: y :: r else y :: insV x r
def RS.take (s:RS) (n:Nat) (z:Nat→Nat):Int×Bool×RS:=
 if n < s.C.least then (5,false,s) else
 if z 0 / 16 ≠ 8 then (9,false,s) else
 match cntOf s.deliver (snOf z) with
 | none=>(6,false,s)
 | some ct=>
  if 16384 < n-2 then (4,false,s) else
  if codeOk s.C ct.toNat n z=false then (11,false,s) else
  if stored s.L ct=true∨ct < s.deliver then (0,false,{ s with dup:=s.dup+1 }) else
  if dataN s.C n=0 then (5,false,s) else
  if 9000 < dataN s.C n then (4,false,s) else
  (0,true,{ s with L:=insV ⟨ct,dataN s.C n,fun j=>((dataZ s.C ct.toNat z j:Nat):Int)⟩ s.L,next:=max s.next (ct+1) })
def RS.receive (s:RS) (t:Int) (n:Nat) (z:Nat→Nat):List SV×Int×RS:=
 if 1073741824≤t then ([],2,s) else
 let x:=(s.at_ t).expire
 let y:=x.2.take n z
 if y.2.1=true then (x.1++y.2.2.deliver_.1,0,y.2.2.deliver_.2.timer) else (x.1,y.1,y.2.2)
theorem fromL_end:∀(l:List SV) (d:Int),(fromL l d).2.2=d+(fromL l d).1.length
 | [],d=>by simp[fromL]
 | e :: r,d=>by
  unfold fromL
  split
  ·simp only[fromL_end r (d+1),List.length_cons];omega
  ·simp
theorem fromL_app:∀(l:List SV) (d:Int),(fromL l d).1++(fromL l d).2.1=l
 | [],d=>rfl
 | e :: r,d=>by
  unfold fromL
  split
  ·simp only[List.cons_append,fromL_app r (d+1)]
  ·rfl
theorem insV_map (x:SE):∀l:List SE,(insS x l).map (·.v)=insV x.v (l.map (·.v))
 | []=>rfl
 | y :: r=>by
  unfold insS
  rw[List.map_cons]
  unfold insV
  split
  ·rfl
  ·rw[List.map_cons,insV_map x r]
theorem stored_find (f:Int) (l:List SE):stored (l.map (·.v)) f=(findS f l).isSome:=by
 unfold stored findS
 rw[List.any_map]
 induction l with
 | nil=>rfl
 | cons e r ih=>
  rw[List.any_cons,List.find?_cons]
  by_cases h:e.v.ct=f
  ·simp[h]
  ·simp only[Function.comp,h,decide_false,Bool.false_or]
   exact ih
end Go.Proofs.YtnadmdadcpemnaaGreat
namespace Go.Proofs.YtnadmdadcpemnaaGreat
open Go.RowKit
set_option linter.unusedVariables false
attribute [local go_sem ↓] Go.wp_at_zero Go.wp_at_succ
theorem rxmade_ok (g:Nat) (w:World) (h:w.cell? ⟨g,39,none⟩=some (.bool true)):Calls Tryz.prog 43 #[.pointer (some ⟨g,0,none⟩)] w fun e w'=>e=.returned (.bool false)∧w=w':=by
 go_enter Tryz.func43,Tryz.ntmps43
 go_wp2
 go_ret
 exact⟨rfl,rfl⟩
theorem rmust_true (e:Int) (w:World):Calls Tryz.prog 61 #[.bool true,.int .i64 e] w fun en w'=>en=.returned (.tuple #[])∧w'=w:=by
 go_enter Tryz.func61,Tryz.ntmps61
 go_wp2
 go_end0
 exact⟨rfl,rfl⟩
def chainOf (e:Int):List PanicEntry:=[{ v:=.iface 31 (.int .i64 e),recovered:=false }]
theorem rmust_false (e:Int) (w:World):Calls Tryz.prog 61 #[.bool false,.int .i64 e] w fun en w'=>en=.panicked (chainOf e)∧w'=w:=by
 go_enter Tryz.func61,Tryz.ntmps61
 go_wp2
 exact⟨rfl,rfl,rfl⟩
set_option maxRecDepth 100000 in
set_option maxHeartbeats 1600000 in
theorem rat_ok (g:Nat) (s:RS) (W R:Nat→Prop) (sb:Nat) (l:List SE) (ub eb:Nat) (w:World) (h:RxM w g s W R sb l ub eb) (t:Int) :
  Calls Tryz.prog 30 #[.pointer (some ⟨g,0,none⟩),.int .i64 t] w fun e w'=>e=.returned (.int .i64 (if 1073741824≤t then 2 else 0))∧RxM w' g (if 1073741824≤t then s else s.at_ t) W R sb l ub eb∧KeepF (fun k=>k=g) w w':=by
 have HT:=zh h
 have c0:=h.made
 have c1:=h.cnow
 have f1:=h.fr 40
 have hn0:=h.ok.now
 have HM:=zh (rxmade_ok g w c0)
 clear h c0
 by_cases ct:1073741824≤t
 ·rw[if_pos ct,if_pos ct]
  go_enter Tryz.func30,Tryz.ntmps30
  go_wp2_with (go_at_call 43;refine(HM.out).mono ?_;rintro e w2 ⟨rfl,rfl⟩)
  go_ret
  exact⟨rfl,HT.out,KeepF.refl⟩
 rw[if_neg ct,if_neg ct]
 go_enter Tryz.func30,Tryz.ntmps30
 go_upto_region 5 with (go_at_call 43;refine(HM.out).mono ?_;rintro e w2 ⟨rfl,rfl⟩)
 obtain⟨nw,hnw⟩:∃nw,nw=s.now:=⟨_,rfl⟩
 rw[←hnw]at c1 hn0
 have HNW:=zh hnw
 clear hnw
 by_cases hlt:nw < t
 ·have TM:=zh (HT.out.setNow t (by omega))
  have TK:=zh (keep_set w g 40 (.int .i64 t))
  have HE:=zh (show s.at_ t={ s with now:=t } by unfold RS.at_;rw[←HNW.out];congr 1;omega)
  go_wp2
  go_ret
  exact⟨rfl,by rw[HE.out];exact TM.out,TK.out⟩
 ·have TM:=zh (HT.out.setNow nw (by omega))
  have TK:=zh (keep_set w g 40 (.int .i64 nw))
  have HE:=zh (show s.at_ t={ s with now:=nw } by unfold RS.at_;rw[←HNW.out];congr 1;omega)
  go_wp2
  go_ret
  exact⟨rfl,by rw[HE.out];exact TM.out,TK.out⟩
end Go.Proofs.YtnadmdadcpemnaaGreat
namespace Go.Proofs.YtnadmdadcpemnaaGreat
open Go.RowKit
set_option linter.unusedVariables false
attribute [local go_sem ↓] Go.wp_at_zero Go.wp_at_succ
theorem RxM.drew_ {w:World} {g:Nat} {s:RS} {W R:Nat→Prop} {sb:Nat} {l:List SE} {ub eb:Nat} (h:RxM w g s W R sb l ub eb):RxM w.drew g s W R sb l ub eb:=h.below (Below.refl _ _).drew
theorem start_yes {s:RS} (h1:s.run=false) (h2:0 < s.C.ro) (h3:s.deliver < s.next):s.start={ s with run:=true,limit:=s.next,expiry:=s.now+s.C.ro }:=by unfold RS.start;rw[if_pos ⟨h1,h2,h3⟩]
theorem start_no {s:RS} (h:¬(s.run=false∧0 < s.C.ro∧s.deliver < s.next)):s.start=s:=by unfold RS.start;rw[if_neg h]
theorem stop_yes {s:RS} (h1:s.run=true) (h2:s.limit≤s.deliver):s.stop={ s with run:=false }:=by unfold RS.stop;rw[if_pos ⟨h1,h2⟩]
theorem stop_no {s:RS} (h:¬(s.run=true∧s.limit≤s.deliver)):s.stop=s:=by unfold RS.stop;rw[if_neg h]
set_option maxRecDepth 100000 in
set_option maxHeartbeats 1600000 in
theorem rtimer_ok (g:Nat) (s:RS) (W R:Nat→Prop) (sb:Nat) (l:List SE) (ub eb:Nat) (w:World) (h:RxM w g s W R sb l ub eb) (hro:0≤s.C.ro∧s.C.ro≤1073741824) :
  Calls Tryz.prog 35 #[.pointer (some ⟨g,0,none⟩)] w fun e w'=>e=.returned (.tuple #[])∧RxM w' g s.timer W R sb l ub eb∧KeepF (fun k=>k=g) w w':=by
 have HT:=zh h
 have HRO:=zh hro
 have c1:=h.crun
 have c2:=h.cdeliver
 have c3:=h.climit
 have f1:=h.fr 44
 obtain⟨dl,hdl⟩:∃x,x=s.deliver:=⟨_,rfl⟩
 obtain⟨lm,hlm⟩:∃x,x=s.limit:=⟨_,rfl⟩
 rw[←hdl]at c2
 rw[←hlm]at c3
 have HE:=zh (And.intro hdl hlm)
 clear h hdl hlm hro
 cases hrn:s.run
 ·rw[hrn]at c1
  have HRN:=zh hrn
  clear hrn
  go_enter Tryz.func35,Tryz.ntmps35;go_upto_region 0 with (fail)
  go_region
  go_upto_region 2 with (fail)
  refine wp_let (fun V=>RxM V g s W R sb l ub eb∧KeepF (fun k=>k=g) w V) ⟨by first | exact HT.out | exact HT.out.drew_,KeepF.refl.drew⟩ ?_
  rintro V ⟨tv,kv⟩
  obtain⟨s1,hs1⟩:∃x,x=s:=⟨_,rfl⟩
  have HS:=zh (show s.timer=s1.start by unfold RS.timer;rw[stop_no (fun h=>by rw[HRN.out]at h;exact absurd h.1 (by decide)),hs1])
  have HR1:=zh (show s1.run=false by first | (rw[hs1];done) | (rw[hs1];exact HRN.out))
  have HC1:=zh (show s1.C.ro=s.C.ro by rw[hs1])
  rw[←hs1]at tv
  have TV:=zh tv
  have KV:=zh kv
  clear tv kv hs1 c1 c2 c3 f1
  have d1:=TV.out.crun
  rw[HR1.out]at d1
  have d2:=TV.out.cdeliver
  have d3:=TV.out.cnext
  have d4:=TV.out.cnow
  have d5:V.cell? ⟨g,38,none⟩=some (.int .i64 s1.C.ro):=TV.out.cC (j:=38) (by decide)
  have e5:=TV.out.climit
  have e6:=TV.out.cexpiry
  have f4:=TV.out.fr 44
  have f5:=TV.out.fr 45
  have f6:=TV.out.fr 46
  have hro:=HRO.out
  rw[←HC1.out]at hro
  have hnow:=TV.out.ok.now
  have hnx:=TV.out.ok.next
  have hdv:=TV.out.ok.deliver
  obtain⟨ro,hroo⟩:∃x,x=s1.C.ro:=⟨_,rfl⟩
  obtain⟨dv,hdvv⟩:∃x,x=s1.deliver:=⟨_,rfl⟩
  obtain⟨nx,hnxx⟩:∃x,x=s1.next:=⟨_,rfl⟩
  obtain⟨nw,hnww⟩:∃x,x=s1.now:=⟨_,rfl⟩
  rw[←hroo]at d5 hro
  rw[←hdvv]at d2 hdv
  rw[←hnxx]at d3 hdv hnx
  rw[←hnww]at d4 hnow
  have HQ:=zh (And.intro hroo (And.intro hdvv (And.intro hnxx hnww)))
  clear hroo hdvv hnxx hnww
  by_cases r1:0 < ro
  ·by_cases r2:dv < nx
   ·have T4:=TV.out.setRun true
    have T5:=T4.setLimit nx ⟨by omega,by rw[HQ.out.2.2.1];exact Int.le_refl _⟩
    have T6:=zh (T5.setExpiry (nw+ro) ⟨by omega,by omega⟩)
    have K6:=zh (((KV.out.setCell (p:=⟨g,44,none⟩) rfl (.bool true)).setCell (p:=⟨g,45,none⟩) rfl (.int .u64 nx)).setCell (p:=⟨g,46,none⟩) rfl (.int .i64 (nw+ro)))
    have HX:=zh (show s.timer={ s1 with run:=true,limit:=nx,expiry:=nw+ro } by rw[HS.out,start_yes HR1.out (by rw[←HQ.out.1];exact r1) (by rw[←HQ.out.2.1,←HQ.out.2.2.1];exact r2),←HQ.out.1,←HQ.out.2.2.1,←HQ.out.2.2.2])
    have ww:IntKind.i64.wrap (nw+ro)=nw+ro:=by simp[IntKind.wrap_i64];omega
    clear T4 T5 hdv hnow hro hnx
    go_region
    go_upto_region 3 with (fail)
    go_region
    go_wp2
    go_end0
    exact⟨rfl,by rw[HX.out];first | exact T6.out | exact T6.out.drew_ | exact T6.out.drew_.drew_ | exact T6.out.drew_.drew_.drew_,by first | exact K6.out | exact K6.out.drew | exact K6.out.drew.drew | exact K6.out.drew.drew.drew⟩
   ·have HX:=zh (show s.timer=s1 by rw[HS.out,start_no (fun h=>r2 (by rw[HQ.out.2.1,HQ.out.2.2.1];exact h.2.2))])
    go_region
    go_wp2
    go_end0
    exact⟨rfl,by rw[HX.out];first | exact TV.out | exact TV.out.drew_ | exact TV.out.drew_.drew_ | exact TV.out.drew_.drew_.drew_,by first | exact KV.out | exact KV.out.drew | exact KV.out.drew.drew | exact KV.out.drew.drew.drew⟩
  ·have HX:=zh (show s.timer=s1 by rw[HS.out,start_no (fun h=>r1 (by rw[HQ.out.1];exact h.2.1))])
   go_region
   go_wp2
   go_end0
   exact⟨rfl,by rw[HX.out];first | exact TV.out | exact TV.out.drew_ | exact TV.out.drew_.drew_ | exact TV.out.drew_.drew_.drew_,by first | exact KV.out | exact KV.out.drew | exact KV.out.drew.drew | exact KV.out.drew.drew.drew⟩
 ·rw[hrn]at c1
  have HRN:=zh hrn
  clear hrn
  by_cases t1:lm≤dl
  ·have T1:=zh (HT.out.setRun false)
   have K1:=zh (keep_set w g 44 (.bool false))
   go_enter Tryz.func35,Tryz.ntmps35;go_upto_region 0 with (fail)
   go_region
   go_upto_region 2 with (fail)
   refine wp_let (fun V=>RxM V g { s with run:=false } W R sb l ub eb∧KeepF (fun k=>k=g) w V) ⟨by first | exact T1.out | exact T1.out.drew_,by first | exact K1.out | exact K1.out.drew⟩ ?_
   rintro V ⟨tv,kv⟩
   obtain⟨s1,hs1⟩:∃x,x={ s with run:=false }:=⟨_,rfl⟩
   have HS:=zh (show s.timer=s1.start by unfold RS.timer;rw[stop_yes HRN.out (by rw[←HE.out.1,←HE.out.2];exact t1),hs1])
   have HR1:=zh (show s1.run=false by first | (rw[hs1];done) | (rw[hs1];exact rfl))
   have HC1:=zh (show s1.C.ro=s.C.ro by rw[hs1])
   rw[←hs1]at tv
   have TV:=zh tv
   have KV:=zh kv
   clear tv kv hs1 c1 c2 c3 f1
   have d1:=TV.out.crun
   rw[HR1.out]at d1
   have d2:=TV.out.cdeliver
   have d3:=TV.out.cnext
   have d4:=TV.out.cnow
   have d5:V.cell? ⟨g,38,none⟩=some (.int .i64 s1.C.ro):=TV.out.cC (j:=38) (by decide)
   have e5:=TV.out.climit
   have e6:=TV.out.cexpiry
   have f4:=TV.out.fr 44
   have f5:=TV.out.fr 45
   have f6:=TV.out.fr 46
   have hro:=HRO.out
   rw[←HC1.out]at hro
   have hnow:=TV.out.ok.now
   have hnx:=TV.out.ok.next
   have hdv:=TV.out.ok.deliver
   obtain⟨ro,hroo⟩:∃x,x=s1.C.ro:=⟨_,rfl⟩
   obtain⟨dv,hdvv⟩:∃x,x=s1.deliver:=⟨_,rfl⟩
   obtain⟨nx,hnxx⟩:∃x,x=s1.next:=⟨_,rfl⟩
   obtain⟨nw,hnww⟩:∃x,x=s1.now:=⟨_,rfl⟩
   rw[←hroo]at d5 hro
   rw[←hdvv]at d2 hdv
   rw[←hnxx]at d3 hdv hnx
   rw[←hnww]at d4 hnow
   have HQ:=zh (And.intro hroo (And.intro hdvv (And.intro hnxx hnww)))
   clear hroo hdvv hnxx hnww
   by_cases r1:0 < ro
   ·by_cases r2:dv < nx
    ·have T4:=TV.out.setRun true
     have T5:=T4.setLimit nx ⟨by omega,by rw[HQ.out.2.2.1];exact Int.le_refl _⟩
     have T6:=zh (T5.setExpiry (nw+ro) ⟨by omega,by omega⟩)
     have K6:=zh (((KV.out.setCell (p:=⟨g,44,none⟩) rfl (.bool true)).setCell (p:=⟨g,45,none⟩) rfl (.int .u64 nx)).setCell (p:=⟨g,46,none⟩) rfl (.int .i64 (nw+ro)))
     have HX:=zh (show s.timer={ s1 with run:=true,limit:=nx,expiry:=nw+ro } by rw[HS.out,start_yes HR1.out (by rw[←HQ.out.1];exact r1) (by rw[←HQ.out.2.1,←HQ.out.2.2.1];exact r2),←HQ.out.1,←HQ.out.2.2.1,←HQ.out.2.2.2])
     have ww:IntKind.i64.wrap (nw+ro)=nw+ro:=by simp[IntKind.wrap_i64];omega
     clear T4 T5 hdv hnow hro hnx
     go_region
     go_upto_region 3 with (fail)
     go_region
     go_wp2
     go_end0
     exact⟨rfl,by rw[HX.out];first | exact T6.out | exact T6.out.drew_ | exact T6.out.drew_.drew_ | exact T6.out.drew_.drew_.drew_,by first | exact K6.out | exact K6.out.drew | exact K6.out.drew.drew | exact K6.out.drew.drew.drew⟩
    ·have HX:=zh (show s.timer=s1 by rw[HS.out,start_no (fun h=>r2 (by rw[HQ.out.2.1,HQ.out.2.2.1];exact h.2.2))])
     go_region
     go_wp2
     go_end0
     exact⟨rfl,by rw[HX.out];first | exact TV.out | exact TV.out.drew_ | exact TV.out.drew_.drew_ | exact TV.out.drew_.drew_.drew_,by first | exact KV.out | exact KV.out.drew | exact KV.out.drew.drew | exact KV.out.drew.drew.drew⟩
   ·have HX:=zh (show s.timer=s1 by rw[HS.out,start_no (fun h=>r1 (by rw[HQ.out.1];exact h.2.1))])
    go_region
    go_wp2
    go_end0
    exact⟨rfl,by rw[HX.out];first | exact TV.out | exact TV.out.drew_ | exact TV.out.drew_.drew_ | exact TV.out.drew_.drew_.drew_,by first | exact KV.out | exact KV.out.drew | exact KV.out.drew.drew | exact KV.out.drew.drew.drew⟩
  ·have HX:=zh (show s.timer=s by unfold RS.timer;rw[stop_no (fun h=>t1 (by rw[HE.out.1,HE.out.2];exact h.2)),start_no (fun h=>by rw[HRN.out]at h;exact absurd h.1 (by decide))])
   go_enter Tryz.func35,Tryz.ntmps35;go_upto_region 0 with (fail)
   go_region
   go_upto_region 2 with (fail)
   go_region
   go_wp2
   go_end0
   exact⟨rfl,by rw[HX.out];first | exact HT.out.drew_ | exact HT.out.drew_.drew_,by first | exact KeepF.refl.drew | exact KeepF.refl.drew.drew⟩
end Go.Proofs.YtnadmdadcpemnaaGreat

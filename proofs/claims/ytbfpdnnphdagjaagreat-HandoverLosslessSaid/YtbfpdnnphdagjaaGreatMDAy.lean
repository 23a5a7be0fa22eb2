import Derived.Test.YtbfpdnnphdagjaaGreatMTBy
import Derived.Test.YtbfpdnnphdagjaaGreatMZAy
import Derived.Test.YtbfpdnnphdagjaaGreatMVSy
import Derived.Maps.OwnSet
import Derived.BigRegion
import Derived.WalkKit
import Derived.OwnWalkIn
import Derived.TacticsInMore
import Derived.LoopNIn
import Derived.LoopIn
import Derived.RangeFuncCalls
import Derived.Sort.MapsRangeIn
import Derived.RangeFuncSeq
import Derived.RangeFuncBox
import Derived.RangeFuncFrom
import Derived.Test.YtbfpdnnphdagjaaGreatB1y
set_option maxRecDepth 100000
set_option maxHeartbeats 3200000
set_option linter.unusedVariables false
set_option linter.unusedSimpArgs false
namespace Go.Proofs.YtbfpdnnphdagjaaGreat
open Go.RowKit
structure SV where
 ct:Int
 n:Nat
 z:Nat->Int
structure SE where
 v:SV
 A:Option Addr
 c:Nat
def SE.val (e:SE):Value:=.slice e.A e.v.n e.c
def RV (v:Value):Option (DataW Value×List MemPlace):=some (.held v,[])
def SE.kv (e:SE):Lit×DataW Value:=(.int .u64 e.v.ct,.held e.val)
theorem uB:Maps.Keyed Tryz.prog 66:=Maps.int_keyed Tryz.underlying66
theorem jP {f:Int} (h0:0<=f) (h1:f < 18446744073709551616):keyOf Tryz.prog 66 (.int .u64 f)=some (.int .u64 f):=Maps.keyOf_int_mk Tryz.underlying66 (by
 have e1:IntKind.u64.min=0:=rfl;have e2:IntKind.u64.max=18446744073709551615:=rfl;simp[Lit.wf,e1,e2];omega)
def bV (l:List SE):Prop:=l.Pairwise fun a b=>a.v.ct < b.v.ct
def SM (w:World) (m:Nat) (l:List SE):Prop:=w.ownsMap Tryz.prog 66 RV m l.length (.map (l.map SE.kv))
theorem uo {w:World} {P:Program} {k:TypeId} {R:Value->Option (DataW Value×List MemPlace)} {b n:Nat} {es:List (Lit×DataW Value)} (h:w.ownsMap P k R b n (.map es)):w.ownsMap P k R b es.length (.map es):=by
 obtain⟨e,c,h1,h2,h3,h4⟩:=h;refine⟨e,c,h1,h2,?_,h4⟩;have:es=(e.toList.map (WideElems.rg P k R)).foldr DataW.insert []:=by injection h4
 rw[this,length_sorted];simp
theorem SM.of {w:World} {m n:Nat} {l:List SE} (h:w.ownsMap Tryz.prog 66 RV m n (.map (l.map SE.kv))):SM w m l:=by
 have:=uo h
 rwa [List.length_map]at this
theorem SM.lt {w:World} {m:Nat} {l:List SE} (h:SM w m l):m < w.heap.size:=World.ownsMap.lt h
theorem SM.keepF {F:Nat->Prop} {w w':World} {m:Nat} {l:List SE} (h:SM w m l) (hk:aa F w w') (hF:¬F m):SM w' m l:=by
 have hl:=h.lt;obtain⟨e,c,h1,h2⟩:=h
 exact⟨e,c,(hk.block m hl hF).trans h1,h2⟩
theorem SM.below {w w':World} {B m:Nat} {l:List SE} (h:SM w m l) (hb:Below B w w') (hm:m < B):SM w' m l:=by
 obtain⟨e,c,h1,h2⟩:=h
 exact⟨e,c,(hb.block m hm).trans h1,h2⟩
theorem SM.made (w:World):SM (w.alloc (.map #[] 0)) w.heap.size []:=World.ownsMap_made w _ _ _
def bn (f:Int) (l:List SE):Option SE:=l.find? fun e=>decide (e.v.ct=f)
def ph (f:Int) (l:List SE):List SE:=l.filter fun e=>!decide (e.v.ct=f)
def fL (x:SE):List SE->List SE
 | []=>[x]
 | y :: r=>if x.v.ct < y.v.ct then x :: y :: r else y :: fL x r
theorem j5 (e:SE) (f:Int):(SE.kv e).1.sameKey (.int .u64 f)=decide (e.v.ct=f):=by
 show decide (IntKind.u64=IntKind.u64/\e.v.ct=f)=_;simp
theorem im (f:Int) (z:DataW Value):∀l:List SE,(DataW.map (l.map SE.kv)).atKey (.int .u64 f) z=(match bn f l with | some e=>.held e.val | none=>z)
 | []=>rfl
 | e :: r=>by
  have ih:=im f z r;unfold DataW.atKey bn at ih ⊢;simp only[List.map_cons,List.find?_cons,j5];by_cases h:e.v.ct=f
  ·simp[h,SE.kv]
  ·simp only[h,decide_false]
   exact ih
theorem iS (f:Int):∀l:List SE,Maps.has (DataW.map (l.map SE.kv)) (.int .u64 f)=(bn f l).isSome
 | []=>rfl
 | e :: r=>by
  have ih:=iS f r;rw[Maps.has_eq]at ih ⊢;unfold bn at ih ⊢;simp only[List.map_cons,List.any_cons,List.find?_cons,j5];by_cases h:e.v.ct=f
  ·simp[h]
  ·simp only[h,decide_false,Bool.false_or]
   exact ih
theorem oK (f:Int) (l:List SE):(DataW.map (l.map SE.kv)).del (.int .u64 f)=.map ((ph f l).map SE.kv):=by
 unfold DataW.del ph;simp only;rw[List.filter_map];congr 2;apply List.filter_congr;intro e _;show(!(SE.kv e).1.sameKey _)=_;rw[j5]
theorem oF (x:SE):∀l:List SE,DataW.insert (SE.kv x) (l.map SE.kv)=(fL x l).map SE.kv
 | []=>rfl
 | y :: r=>by
  have hb:(SE.kv x).1.before (SE.kv y).1=decide (x.v.ct < y.v.ct):=rfl;unfold fL;rw[List.map_cons];unfold DataW.insert;rw[hb];by_cases h:x.v.ct < y.v.ct
  ·simp[h]
  ·simp only[h,decide_false];rw[oF x r];simp
theorem bF {f:Int} {l:List SE}:bn f l=none↔∀e,e∈l->e.v.ct ≠ f:=by
 unfold bn;simp
theorem gY {f:Int} {l:List SE} {e:SE} (h:bn f l=some e):e∈l/\e.v.ct=f:=by
 unfold bn at h
 exact⟨List.mem_of_find?_eq_some h,by simpa using List.find?_some h⟩
theorem ux {f:Int} {l:List SE} (h:bn f l=none):ph f l=l:=by
 unfold ph;rw[List.filter_eq_self];intro e he;simp[bF.1 h e he]
theorem vF (x:SE) (l:List SE) (h:bn x.v.ct l=none):(DataW.map (l.map SE.kv)).put (.int .u64 x.v.ct) (.held x.val)=.map ((fL x l).map SE.kv):=by
 have e:=oK x.v.ct l;rw[ux h]at e;unfold DataW.put;unfold DataW.del at e;simp only at e ⊢;injection e with e
 rw[e];congr 1
 exact oF x l
theorem oQ (x:SE):∀l:List SE,(fL x l).length=l.length+1
 | []=>rfl
 | y :: r=>by
  unfold fL
  split
  ·rfl
  ·rw[List.length_cons,oQ x r,List.length_cons]
theorem fe (x:SE):∀(l:List SE) (e:SE),e∈fL x l↔e=x\/e∈l
 | [],e=>by simp[fL]
 | y :: r,e=>by
  unfold fL
  split
  ·simp
  ·simp only[List.mem_cons,fe x r e]
   exact⟨fun h=>by rcases h with h | h | h<;>simp[h],fun h=>by rcases h with h | h | h<;>simp[h]⟩
theorem ga {x:SE}:∀{l:List SE},bV l->bn x.v.ct l=none->bV (fL x l)
 | [],_,_=>by simp[fL,bV]
 | y :: r,h,hn=>by
  have h1:(∀e,e∈r->y.v.ct < e.v.ct)/\bV r:=List.pairwise_cons.1 h;have hy:y.v.ct ≠ x.v.ct:=bF.1 hn y (by simp);have hr:bn x.v.ct r=none:=bF.2 fun e he=>bF.1 hn e (by simp[he]);unfold fL
  split
  ·rename_i hlt;refine List.pairwise_cons.2 ⟨fun e he=>?_,h⟩;rcases List.mem_cons.1 he with rfl | he
   ·exact hlt
   ·have:=h1.1 e he;omega
  ·rename_i hlt;refine List.pairwise_cons.2 ⟨fun e he=>?_,ga h1.2 hr⟩;rcases (fe x r e).1 he with rfl | he
   ·omega
   ·exact h1.1 e he
theorem rD {f:Int} {e:SE} {r:List SE} (h:bV (e :: r)) (hf:∀x,x∈e :: r->f<=x.v.ct):bn f (e :: r)=if e.v.ct=f then some e else none:=by
 unfold bn;rw[List.find?_cons];by_cases h1:e.v.ct=f
 ·simp[h1]
 ·simp only[h1,decide_false,if_neg,not_false_iff];refine List.find?_eq_none.2 fun x hx=>?_;have h2:e.v.ct < x.v.ct:=(List.pairwise_cons.1 h).1 x hx;have h3:=hf e (by simp);simp;omega
theorem tz {e:SE} {r:List SE} (h:bV (e :: r)):ph e.v.ct (e :: r)=r:=by
 unfold ph;rw[List.filter_cons];simp only[decide_true,Bool.not_true,Bool.false_eq_true,if_false];rw[List.filter_eq_self];intro x hx;have h2:e.v.ct < x.v.ct:=(List.pairwise_cons.1 h).1 x hx;simp;omega
theorem iq {w:World} {m:Nat} {l:List SE} (h:SM w m l) {f:Int} (h0:0<=f) (h1:f < 18446744073709551616) :
  (Instr.lookup 87 (.map (some m)) (.int .u64 f) true).run Tryz.prog w=.ok (.tuple #[(match bn f l with | some e=>e.val | none=>.slice none 0 0),.bool (bn f l).isSome]) w:=by
 have hz:(zeroValue 41).run Tryz.prog w=.ok (.slice none 0 0) w:=by kernel_rfl
 obtain⟨v,ps,hrun,hv⟩:=World.ownsMap.look_ok h uB Tryz.underlying87 hz (zd:=.held (.slice none 0 0)) (zp:=[]) rfl (jP h0 h1);rw[iS]at hrun;rw[im]at hv;have:v=(match bn f l with | some e=>e.val | none=>.slice none 0 0):=by
  unfold RV at hv;simp only[Option.some.injEq,Prod.mk.injEq]at hv
  cases hfs:bn f l with
  | none=>rw[hfs]at hv;have:=hv.1;simp only[DataW.held.injEq]at this;exact this
  | some e=>rw[hfs]at hv;have:=hv.1;simp only[DataW.held.injEq]at this;exact this
 rw[hrun,this]
theorem yj {w:World} {m:Nat} {l:List SE} (h:SM w m l) {f:Int} (h0:0<=f) (h1:f < 18446744073709551616) {e:SE} (he:bn f l=some e) :
  (Instr.lookup 87 (.map (some m)) (.int .u64 f) false).run Tryz.prog w=.ok e.val w:=by
 have hz:(zeroValue 41).run Tryz.prog w=.ok (.slice none 0 0) w:=by kernel_rfl
 obtain⟨v,ps,hrun,hv⟩:=World.ownsMap.lookup h uB Tryz.underlying87 hz (zd:=.held (.slice none 0 0)) (zp:=[]) rfl (jP h0 h1);rw[im,he]at hv;unfold RV at hv;simp only[Option.some.injEq,Prod.mk.injEq,DataW.held.injEq]at hv;rw[hrun,hv.1]
theorem aa.of_turned {w w':World} {b:Nat} (h:w.mapTurned w' b):aa (fun k=>k=b) w w':=aa.of_row h.grown rfl
theorem u7 {w:World} {m:Nat} {l:List SE} (h:SM w m l) {f:Int} (h0:0<=f) (h1:f < 18446744073709551616) (ty:TypeId) :
  ∃w',(Builtin.delete_ #[87,66] ty #[.map (some m),.int .u64 f]).run Tryz.prog w=.ok (.tuple #[]) w'/\SM w' m (ph f l)/\aa (fun k=>k=m) w w':=by
 obtain⟨w',hrun,h2,h3⟩:=World.ownsMap.drop h uB Tryz.underlying87 (jP h0 h1) ty;rw[oK]at h2
 exact⟨w',hrun,SM.of h2,aa.of_turned h3⟩
theorem j6 {w:World} {m:Nat} {l:List SE} (h:SM w m l) (x:SE) (h0:0<=x.v.ct) (h1:x.v.ct < 18446744073709551616) (hn:bn x.v.ct l=none) (hl:l.length < maxLen) :
  ∃w',(Instr.mapUpdate 87 (.map (some m)) (.int .u64 x.v.ct) x.val).run Tryz.prog w=.ok () w'/\SM w' m (fL x l)/\aa (fun k=>k=m) w w':=by
 obtain⟨w',hrun,h2,h3⟩:=World.ownsMap.store h uB Tryz.underlying87 hl (jP h0 h1) (val:=x.val) (d:=.held x.val) (ps:=[]) rfl;rw[vF x l hn]at h2
 exact⟨w',hrun,SM.of h2,aa.of_turned h3⟩
def o9 (now d nx:Int) (sb:Nat) (run:Bool) (lim ex:Int) (ub eb:Nat) (dup:Int):Array Value:=#[.bool true,.int .i64 now,.int .u64 d,.int .u64 nx,.map (some sb),.bool run,.int .u64 lim,.int .i64 ex,.map (some ub),.pointer (some ⟨eb,0,none⟩),.slice none 0 0,.int .i64 dup]
def cT (C:Array Value) (now d nx:Int) (sb:Nat) (run:Bool) (lim ex:Int) (ub eb:Nat) (dup:Int):Array Value:=C++o9 now d nx sb run lim ex ub eb dup
section
variable {C:Array Value} {now d nx:Int} {sb:Nat} {run:Bool} {lim ex:Int} {ub eb:Nat} {dup:Int}
theorem gC (hC:C.size=39):(cT C now d nx sb run lim ex ub eb dup).size=51:=by simp[cT,o9,hC]
theorem gk (hC:C.size=39) {j:Nat} (hj:j < 39):(cT C now d nx sb run lim ex ub eb dup)[j]? = C[j]?:=by
 unfold cT;rw[Array.getElem?_append_left (by omega)]
theorem ja (hC:C.size=39) (j:Nat):(cT C now d nx sb run lim ex ub eb dup)[39+j]? = (o9 now d nx sb run lim ex ub eb dup)[j]?:=by
 unfold cT;rw[Array.getElem?_append_right (by omega),hC,show 39+j-39=j by omega]
theorem eB (hC:C.size=39) (j:Nat) (v:Value):(cT C now d nx sb run lim ex ub eb dup).setIfInBounds (39+j) v=C++(o9 now d nx sb run lim ex ub eb dup).setIfInBounds j v:=by
 unfold cT;rw[Array.setIfInBounds_append_right (by omega),hC,show 39+j-39=j by omega]
theorem vG (hC:C.size=39) (x:Int):(cT C now d nx sb run lim ex ub eb dup).setIfInBounds 40 (.int .i64 x)=cT C x d nx sb run lim ex ub eb dup:=eB hC 1 _
theorem ow (hC:C.size=39) (x:Int):(cT C now d nx sb run lim ex ub eb dup).setIfInBounds 41 (.int .u64 x)=cT C now x nx sb run lim ex ub eb dup:=eB hC 2 _
theorem tO (hC:C.size=39) (x:Int):(cT C now d nx sb run lim ex ub eb dup).setIfInBounds 42 (.int .u64 x)=cT C now d x sb run lim ex ub eb dup:=eB hC 3 _
theorem xJ (hC:C.size=39) (x:Bool):(cT C now d nx sb run lim ex ub eb dup).setIfInBounds 44 (.bool x)=cT C now d nx sb x lim ex ub eb dup:=eB hC 5 _
theorem vn (hC:C.size=39) (x:Int):(cT C now d nx sb run lim ex ub eb dup).setIfInBounds 45 (.int .u64 x)=cT C now d nx sb run x ex ub eb dup:=eB hC 6 _
theorem x7 (hC:C.size=39) (x:Int):(cT C now d nx sb run lim ex ub eb dup).setIfInBounds 46 (.int .i64 x)=cT C now d nx sb run lim x ub eb dup:=eB hC 7 _
theorem wl (hC:C.size=39) (x:Int):(cT C now d nx sb run lim ex ub eb dup).setIfInBounds 50 (.int .i64 x)=cT C now d nx sb run lim ex ub eb x:=eB hC 11 _
end
structure RS where
 C:ax
 now:Int
 deliver:Int
 next:Int
 L:List SV
 run:Bool
 limit:Int
 expiry:Int
 used:List (Array Value)
 exp:Obj
 dup:Int
structure RS.Ok (s:RS):Prop where
 now:0<=s.now/\s.now < 1073741824
 deliver:0<=s.deliver/\s.deliver<=s.next
 next:s.next<=4294967296
 limit:0<=s.limit/\s.limit<=s.next
 expiry:0<=s.expiry/\s.expiry<=2147483648
 dup:0<=s.dup/\s.dup < 4611686018427387904
def wo (o:Obj):Prop:=∃L,o=.cells L 166 (0,0)/\L=Tryz.zeroCells166.setIfInBounds 0 (.bool true)
structure aN (w:World) (g:Nat) (s:RS) (W R:Nat->Prop) (sb:Nat) (l:List SE) (ub eb:Nat):Prop where
 blk:ae w g 90 (cT s.C.arr s.now s.deliver s.next sb s.run s.limit s.expiry ub eb s.dup)
 lv:l.map (·.v)=s.L
 st:SM w sb l
 ris:bV l
 rng:∀e,e∈l->s.deliver<=e.v.ct/\e.v.ct < s.next
 u:UK w ub s.used
 x:w.heap[eb]? = some s.exp
 pk:∀e,e∈l->bZ w R e.A e.v.n e.c e.v.z
 ok:s.Ok
 wg:W g
 ws:W sb
 wu:W ub
 wx:W eb
 xg:eb ≠ g
 xs:eb ≠ sb
 xu:eb ≠ ub
 su:sb ≠ ub
 dis:∀k,W k->R k->False
 win:∀k,W k->k < w.heap.size
 rin:∀k,R k->k < w.heap.size
 xo:s.C.cm=false->wo s.exp
section
variable {w w':World} {g:Nat} {s:RS} {W R R' F:Nat->Prop} {sb:Nat} {l:List SE} {ub eb:Nat}
theorem aN.gs (h:aN w g s W R sb l ub eb):g ≠ sb:=by
 obtain⟨es,c,h1,_⟩:=h.st
 exact kj h.blk h1
theorem aN.gu (h:aN w g s W R sb l ub eb):g ≠ ub:=by
 obtain⟨es,c,h1,_⟩:=h.u
 exact kj h.blk h1
theorem aN.keepF (h:aN w g s W R sb l ub eb) (hk:aa F w w') (hF:∀k,F k->¬W k/\¬R k):aN w' g s W R sb l ub eb:=
 ⟨hk.blk h.blk (fun hf=>(hF _ hf).1 h.wg),h.lv,h.st.keepF hk (fun hf=>(hF _ hf).1 h.ws),h.ris,h.rng,h.u.keep (hk.block _ h.u.lt (fun hf=>(hF _ hf).1 h.wu)),
  (hk.block _ (h.win _ h.wx) (fun hf=>(hF _ hf).1 h.wx)).trans h.x,fun e he=>(h.pk e he).keep hk (fun k hf=>(hF k hf).2),h.ok,h.wg,h.ws,h.wu,h.wx,h.xg,h.xs,h.xu,h.su,h.dis,
  fun k hk'=>bp (h.win k hk') hk.size,fun k hk'=>bp (h.rin k hk') hk.size,h.xo⟩
theorem aN.below (h:aN w g s W R sb l ub eb) (hb:Below w.heap.size w w'):aN w' g s W R sb l ub eb:=
 h.keepF (F:=fun _=>False) (aa.of_below hb) (fun _ hf=>hf.elim)
theorem aN.hi (h:aN w g s W R sb l ub eb) (j:Nat):w.cell? ⟨g,39+j,none⟩=(o9 s.now s.deliver s.next sb s.run s.limit s.expiry ub eb s.dup)[j]?:=(h.blk.cell (39+j)).trans (ja s.C.arr_size j)
theorem aN.made (h:aN w g s W R sb l ub eb):w.cell? ⟨g,39,none⟩=some (.bool true):=h.hi 0
theorem aN.cnow (h:aN w g s W R sb l ub eb):w.cell? ⟨g,40,none⟩=some (.int .i64 s.now):=h.hi 1
theorem aN.cdeliver (h:aN w g s W R sb l ub eb):w.cell? ⟨g,41,none⟩=some (.int .u64 s.deliver):=h.hi 2
theorem aN.cnext (h:aN w g s W R sb l ub eb):w.cell? ⟨g,42,none⟩=some (.int .u64 s.next):=h.hi 3
theorem aN.cs (h:aN w g s W R sb l ub eb):w.cell? ⟨g,43,none⟩=some (.map (some sb)):=h.hi 4
theorem aN.crun (h:aN w g s W R sb l ub eb):w.cell? ⟨g,44,none⟩=some (.bool s.run):=h.hi 5
theorem aN.climit (h:aN w g s W R sb l ub eb):w.cell? ⟨g,45,none⟩=some (.int .u64 s.limit):=h.hi 6
theorem aN.cexpiry (h:aN w g s W R sb l ub eb):w.cell? ⟨g,46,none⟩=some (.int .i64 s.expiry):=h.hi 7
theorem aN.cu (h:aN w g s W R sb l ub eb):w.cell? ⟨g,47,none⟩=some (.map (some ub)):=h.hi 8
theorem aN.cx (h:aN w g s W R sb l ub eb):w.cell? ⟨g,48,none⟩=some (.pointer (some ⟨eb,0,none⟩)):=h.hi 9
theorem aN.cdup (h:aN w g s W R sb l ub eb):w.cell? ⟨g,50,none⟩=some (.int .i64 s.dup):=h.hi 11
theorem aN.cC (h:aN w g s W R sb l ub eb) {j:Nat} (hj:j < 39):w.cell? ⟨g,j,none⟩=some (s.C.cell j):=(h.blk.cell j).trans ((gk s.C.arr_size hj).trans (s.C.arr_at hj))
theorem aN.fr (h:aN w g s W R sb l ub eb) (j:Nat):w.frozen? ⟨g,j,none⟩=false:=h.blk.frozen j
theorem aN.one {s':RS} (h:aN w g s W R sb l ub eb) (hk:aa (fun k=>k=g) w w') (hb:ae w' g 90 (cT s'.C.arr s'.now s'.deliver s'.next sb s'.run s'.limit s'.expiry ub eb s'.dup))
  (hL:s'.L=s.L) (hU:s'.used=s.used) (hX:s'.exp=s.exp) (hr:∀e,e∈l->s'.deliver<=e.v.ct/\e.v.ct < s'.next) (hok:s'.Ok) (hC:s'.C.cm=s.C.cm:=by rfl):aN w' g s' W R sb l ub eb:=
 ⟨hb,h.lv.trans hL.symm,h.st.keepF hk (fun e=>h.gs e.symm),h.ris,hr,by rw[hU];exact h.u.keep (hk.block _ h.u.lt (fun e=>h.gu e.symm)),by rw[hX];exact(hk.block _ (h.win _ h.wx) h.xg).trans h.x,
  fun e he=>(h.pk e he).keep hk (fun k e2 hr=>h.dis k (e2 ▸ h.wg) hr),hok,h.wg,h.ws,h.wu,h.wx,h.xg,h.xs,h.xu,h.su,h.dis,fun k hw=>bp (h.win k hw) hk.size,fun k hw=>bp (h.rin k hw) hk.size,fun hc=>by rw[hX];exact h.xo (by rw[<-hC];exact hc)⟩
theorem aC (w:World) (g j:Nat) (v:Value):aa (fun k=>k=g) w (w.setCell ⟨g,j,none⟩ v):=(aa.refl (F:=fun k=>k=g)).setCell (p:=⟨g,j,none⟩) rfl _
theorem aN.setNow (h:aN w g s W R sb l ub eb) (x:Int) (hx:0<=x/\x < 1073741824):aN (w.setCell ⟨g,40,none⟩ (.int .i64 x)) g { s with now:=x } W R sb l ub eb:=
 h.one (aC w g 40 _) (by have:=h.blk.set_ 40 (.int .i64 x);rwa [vG s.C.arr_size]at this) rfl rfl rfl h.rng ⟨hx,h.ok.deliver,h.ok.next,h.ok.limit,h.ok.expiry,h.ok.dup⟩
theorem aN.setDeliver (h:aN w g s W R sb l ub eb) (x:Int) (hx:0<=x/\x<=s.next) (hr:∀e,e∈l->x<=e.v.ct):aN (w.setCell ⟨g,41,none⟩ (.int .u64 x)) g { s with deliver:=x } W R sb l ub eb:=
 h.one (aC w g 41 _) (by have:=h.blk.set_ 41 (.int .u64 x);rwa [ow s.C.arr_size]at this) rfl rfl rfl (fun e he=>⟨hr e he,(h.rng e he).2⟩) ⟨h.ok.now,hx,h.ok.next,h.ok.limit,h.ok.expiry,h.ok.dup⟩
theorem aN.setNext (h:aN w g s W R sb l ub eb) (x:Int) (hx:s.next<=x/\x<=4294967296):aN (w.setCell ⟨g,42,none⟩ (.int .u64 x)) g { s with next:=x } W R sb l ub eb:=
 h.one (aC w g 42 _) (by have:=h.blk.set_ 42 (.int .u64 x);rwa [tO s.C.arr_size]at this) rfl rfl rfl (fun e he=>⟨(h.rng e he).1,Int.lt_of_lt_of_le (h.rng e he).2 hx.1⟩) ⟨h.ok.now,⟨h.ok.deliver.1,Int.le_trans h.ok.deliver.2 hx.1⟩,hx.2,⟨h.ok.limit.1,Int.le_trans h.ok.limit.2 hx.1⟩,h.ok.expiry,h.ok.dup⟩
theorem aN.setRun (h:aN w g s W R sb l ub eb) (x:Bool):aN (w.setCell ⟨g,44,none⟩ (.bool x)) g { s with run:=x } W R sb l ub eb:=
 h.one (aC w g 44 _) (by have:=h.blk.set_ 44 (.bool x);rwa [xJ s.C.arr_size]at this) rfl rfl rfl h.rng ⟨h.ok.now,h.ok.deliver,h.ok.next,h.ok.limit,h.ok.expiry,h.ok.dup⟩
theorem aN.setLimit (h:aN w g s W R sb l ub eb) (x:Int) (hx:0<=x/\x<=s.next):aN (w.setCell ⟨g,45,none⟩ (.int .u64 x)) g { s with limit:=x } W R sb l ub eb:=
 h.one (aC w g 45 _) (by have:=h.blk.set_ 45 (.int .u64 x);rwa [vn s.C.arr_size]at this) rfl rfl rfl h.rng ⟨h.ok.now,h.ok.deliver,h.ok.next,hx,h.ok.expiry,h.ok.dup⟩
theorem aN.setExpiry (h:aN w g s W R sb l ub eb) (x:Int) (hx:0<=x/\x<=2147483648):aN (w.setCell ⟨g,46,none⟩ (.int .i64 x)) g { s with expiry:=x } W R sb l ub eb:=
 h.one (aC w g 46 _) (by have:=h.blk.set_ 46 (.int .i64 x);rwa [x7 s.C.arr_size]at this) rfl rfl rfl h.rng ⟨h.ok.now,h.ok.deliver,h.ok.next,h.ok.limit,hx,h.ok.dup⟩
theorem aN.setDup (h:aN w g s W R sb l ub eb) (x:Int) (hx:0<=x/\x < 4611686018427387904):aN (w.setCell ⟨g,50,none⟩ (.int .i64 x)) g { s with dup:=x } W R sb l ub eb:=
 h.one (aC w g 50 _) (by have:=h.blk.set_ 50 (.int .i64 x);rwa [wl s.C.arr_size]at this) rfl rfl rfl h.rng ⟨h.ok.now,h.ok.deliver,h.ok.next,h.ok.limit,h.ok.expiry,hx⟩
theorem aN.moreR (h:aN w g s W R sb l ub eb) (hR:∀k,R k->R' k) (hd:∀k,W k->R' k->False) (hr:∀k,R' k->k < w.heap.size):aN w g s W R' sb l ub eb:=
 ⟨h.blk,h.lv,h.st,h.ris,h.rng,h.u,h.x,fun e he=>(h.pk e he).mono hR,h.ok,h.wg,h.ws,h.wu,h.wx,h.xg,h.xs,h.xu,h.su,hd,h.win,hr,h.xo⟩
theorem aN.setMap {s':RS} {l':List SE} (h:aN w g s W R sb l ub eb) (hk:aa (fun k=>k=sb) w w') (hm:SM w' sb l') (hr:bV l') (hs:s'={ s with L:=l'.map (·.v) }) (hg:∀e,e∈l'->s.deliver<=e.v.ct/\e.v.ct < s.next)
  (hp:∀e,e∈l'->bZ w R e.A e.v.n e.c e.v.z):aN w' g s' W R sb l' ub eb:=by
 subst hs
 exact⟨hk.blk h.blk (fun e=>h.gs e),rfl,hm,hr,hg,h.u.keep (hk.block _ h.u.lt (fun e=>h.su e.symm)),(hk.block _ (h.win _ h.wx) h.xs).trans h.x,
  fun e he=>(hp e he).keep hk (fun k e2 hr=>h.dis k (e2 ▸ h.ws) hr),⟨h.ok.now,h.ok.deliver,h.ok.next,h.ok.limit,h.ok.expiry,h.ok.dup⟩,h.wg,h.ws,h.wu,h.wx,h.xg,h.xs,h.xu,h.su,h.dis,fun k hw=>bp (h.win k hw) hk.size,fun k hw=>bp (h.rin k hw) hk.size,h.xo⟩
end
theorem kX:∀{l:List SE} {a b:Int},bV l->(∀e,e∈l->a<=e.v.ct/\e.v.ct < b)->a<=b->(l.length:Int)<=b-a
 | [],a,b,_,_,h=>by simp;omega
 | e :: r,a,b,h,hr,hab=>by
  have h1:(∀x,x∈r->e.v.ct < x.v.ct)/\bV r:=List.pairwise_cons.1 h;have he:=hr e (by simp);have:=kX (l:=r) (a:=e.v.ct+1) (b:=b) h1.2 (fun x hx=>⟨by have:=h1.1 x hx;omega,(hr x (by simp[hx])).2⟩) (by omega);rw[List.length_cons];omega
theorem aN.few {w:World} {g:Nat} {s:RS} {W R:Nat->Prop} {sb:Nat} {l:List SE} {ub eb:Nat} (h:aN w g s W R sb l ub eb):l.length < maxLen:=by
 have h1:=kX h.ris h.rng h.ok.deliver.2;have h2:=h.ok.next;have h3:=h.ok.deliver.1;unfold maxLen;omega
def aU:List SV->Int->List SV×List SV×Int
 | [],d=>([],[],d)
 | e :: r,d=>if e.ct=d then (e :: (aU r (d+1)).1,(aU r (d+1)).2) else ([],e :: r,d)
def RS.deliver_ (s:RS):List SV×RS:=((aU s.L s.deliver).1,{ s with L:=(aU s.L s.deliver).2.1,deliver:=(aU s.L s.deliver).2.2 })
def RS.stop (s:RS):RS:=if s.run=true/\s.limit<=s.deliver then { s with run:=false } else s
def RS.start (s:RS):RS:=if s.run=false/\0 < s.C.ro/\s.deliver < s.next then { s with run:=true,limit:=s.next,expiry:=s.now+s.C.ro } else s
def RS.timer (s:RS):RS:=s.stop.start
def xX (k:Int) (l:List SV):List SV:=l.filter fun e=>decide (e.ct < k)
def iG (k:Int) (l:List SV):List SV:=l.filter fun e=>!decide (e.ct < k)
def RS.cut (s:RS):RS:={ s with run:=false,L:=iG s.limit s.L,deliver:=max s.deliver s.limit }
def RS.expire (s:RS):List SV×RS:=if s.run=false\/s.now < s.expiry then ([],s) else (xX s.limit s.L++s.cut.deliver_.1,s.cut.deliver_.2.timer)
def RS.at_ (s:RS) (t:Int):RS:={ s with now:=max s.now t }
def iN (d sn:Int):Int:=if sn+2048 < d % 4096 then d / 4096+1 else if d % 4096+2048<=sn then d / 4096-1 else d / 4096
def bR (d sn:Int):Option Int:=if 0<=iN d sn/\iN d sn < 1048576 then some (iN d sn*4096+sn) else none
def ax.least (c:ax):Nat:=if c.ig=true then 6 else 2
def aT (c:ax) (n:Nat):Nat:=n-c.least
def eC (c:ax) (ct:Nat) (z:Nat->Nat):Nat->Nat:=fy (nf c.key) ct c.b.toNat c.d.toNat (fun j=>z (2+j))
def iJ (c:ax) (ct n:Nat) (z:Nat->Nat):Nat:=di (nf c.code) ct c.b.toNat c.d.toNat (bD z 2 (eC c ct z)) (2+aT c n)
def tY (c:ax) (ct n:Nat) (z:Nat->Nat):Nat:=let f:=fun j=>eC c ct z (aT c n+j);f 0*16777216+f 1*65536+f 2*256+f 3
def cj (c:ax) (ct n:Nat) (z:Nat->Nat):Bool:=!c.ig || decide (iJ c ct n z=tY c ct n z)
def fI (z:Nat->Nat):Nat:=z 0 % 16*256+z 1
def stored (L:List SV) (ct:Int):Bool:=L.any fun e=>decide (e.ct=ct)
def dq (x:SV):List SV->List SV
 | []=>[x]
 | y :: r=>if x.ct < y.ct then x :: y :: r else y :: dq x r
def RS.take (s:RS) (n:Nat) (z:Nat->Nat):Int×Bool×RS:=
 if n < s.C.least then (5,false,s) else
 if z 0 / 16 ≠ 8 then (9,false,s) else
 match bR s.deliver (fI z) with
 | none=>(6,false,s)
 | some ct=>
  if 16384 < n-2 then (4,false,s) else
  if cj s.C ct.toNat n z=false then (11,false,s) else
  if stored s.L ct=true\/ct < s.deliver then (0,false,{ s with dup:=s.dup+1 }) else
  if aT s.C n=0 then (5,false,s) else
  if 9000 < aT s.C n then (4,false,s) else
  (0,true,{ s with L:=dq ⟨ct,aT s.C n,fun j=>((eC s.C ct.toNat z j:Nat):Int)⟩ s.L,next:=max s.next (ct+1) })
def RS.receive (s:RS) (t:Int) (n:Nat) (z:Nat->Nat):List SV×Int×RS:=
 if 1073741824<=t then ([],2,s) else
 let x:=(s.at_ t).expire
 let y:=x.2.take n z
 if y.2.1=true then (x.1++y.2.2.deliver_.1,0,y.2.2.deliver_.2.timer) else (x.1,y.1,y.2.2)
theorem nc:∀(l:List SV) (d:Int),(aU l d).2.2=d+(aU l d).1.length
 | [],d=>by simp[aU]
 | e :: r,d=>by
  unfold aU
  split
  ·simp only[nc r (d+1),List.length_cons];omega
  ·simp
theorem mK:∀(l:List SV) (d:Int),(aU l d).1++(aU l d).2.1=l
 | [],d=>rfl
 | e :: r,d=>by
  unfold aU
  split
  ·simp only[List.cons_append,mK r (d+1)]
  ·rfl
theorem kx (x:SE):∀l:List SE,(fL x l).map (·.v)=dq x.v (l.map (·.v))
 | []=>rfl
 | y :: r=>by
  unfold fL;rw[List.map_cons];unfold dq
  split
  ·rfl
  ·rw[List.map_cons,kx x r]
theorem gl (f:Int) (l:List SE):stored (l.map (·.v)) f=(bn f l).isSome:=by
 unfold stored bn;rw[List.any_map]
 induction l with
 | nil=>rfl
 | cons e r ih=>
  rw[List.any_cons,List.find?_cons];by_cases h:e.v.ct=f
  ·simp[h]
  ·simp only[Function.comp,h,decide_false,Bool.false_or]
   exact ih
end Go.Proofs.YtbfpdnnphdagjaaGreat
namespace Go.Proofs.YtbfpdnnphdagjaaGreat
open Go.RowKit
attribute [local go_sem ↓] Go.wp_at_zero Go.wp_at_succ
theorem d9 (g:Nat) (w:World) (h:w.cell? ⟨g,39,none⟩=some (.bool true)):Calls Tryz.prog 29 #[.pointer (some ⟨g,0,none⟩)] w fun e w'=>e=.returned (.bool false)/\w=w':=by
 go_enter Tryz.func29,Tryz.ntmps29;go_wp2;go_ret
 exact⟨rfl,rfl⟩
theorem aB (e:Int) (w:World):Calls Tryz.prog 72 #[.bool true,.int .i64 e] w fun en w'=>en=.returned (.tuple #[])/\w'=w:=by
 go_enter Tryz.func72,Tryz.ntmps72;go_wp2;go_end0
 exact⟨rfl,rfl⟩
def d8 (e:Int):List PanicEntry:=[{ v:=.iface 30 (.int .i64 e),recovered:=false }]
theorem aA (e:Int) (w:World):Calls Tryz.prog 72 #[.bool false,.int .i64 e] w fun en w'=>en=.panicked (d8 e)/\w'=w:=by
 go_enter Tryz.func72,Tryz.ntmps72;go_wp2
 exact⟨rfl,rfl,rfl⟩
theorem z6 (g:Nat) (s:RS) (W R:Nat->Prop) (sb:Nat) (l:List SE) (ub eb:Nat) (w:World) (h:aN w g s W R sb l ub eb) (t:Int) :
  Calls Tryz.prog 48 #[.pointer (some ⟨g,0,none⟩),.int .i64 t] w fun e w'=>e=.returned (.int .i64 (if 1073741824<=t then 2 else 0))/\aN w' g (if 1073741824<=t then s else s.at_ t) W R sb l ub eb/\aa (fun k=>k=g) w w':=by
 have HT:=zh h;have c0:=h.made;have c1:=h.cnow;have f1:=h.fr 40;have hn0:=h.ok.now;have HM:=zh (d9 g w c0);clear h c0;by_cases ct:1073741824<=t
 ·rw[if_pos ct,if_pos ct];go_enter Tryz.func48,Tryz.ntmps48;go_wp2_with (go_at_call 29;refine(HM.out).mono ?_;rintro e w2 ⟨rfl,rfl⟩);go_ret
  exact⟨rfl,HT.out,aa.refl⟩
 rw[if_neg ct,if_neg ct];go_enter Tryz.func48,Tryz.ntmps48;go_upto_region 5 with (go_at_call 29;refine(HM.out).mono ?_;rintro e w2 ⟨rfl,rfl⟩)
 obtain⟨nw,hnw⟩:=af s.now
 rw[<-hnw]at c1 hn0;have HNW:=zh hnw;clear hnw;by_cases hlt:nw < t
 ·have TM:=zh (HT.out.setNow t (by omega));have TK:=zh (aC w g 40 (.int .i64 t));have HE:=zh (show s.at_ t={ s with now:=t } by unfold RS.at_;rw[<-HNW.out];congr 1;omega);go_wp2;go_ret
  exact⟨rfl,by rw[HE.out];exact TM.out,TK.out⟩
 ·have TM:=zh (HT.out.setNow nw (by omega));have TK:=zh (aC w g 40 (.int .i64 nw));have HE:=zh (show s.at_ t={ s with now:=nw } by unfold RS.at_;rw[<-HNW.out];congr 1;omega);go_wp2;go_ret
  exact⟨rfl,by rw[HE.out];exact TM.out,TK.out⟩
theorem aN.drew_ {w:World} {g:Nat} {s:RS} {W R:Nat->Prop} {sb:Nat} {l:List SE} {ub eb:Nat} (h:aN w g s W R sb l ub eb):aN w.drew g s W R sb l ub eb:=h.below (Below.refl _ _).drew
theorem mj {s:RS} (h1:s.run=false) (h2:0 < s.C.ro) (h3:s.deliver < s.next):s.start={ s with run:=true,limit:=s.next,expiry:=s.now+s.C.ro }:=by unfold RS.start;rw[if_pos ⟨h1,h2,h3⟩]
theorem fg {s:RS} (h:¬(s.run=false/\0 < s.C.ro/\s.deliver < s.next)):s.start=s:=by unfold RS.start;rw[if_neg h]
theorem vR {s:RS} (h1:s.run=true) (h2:s.limit<=s.deliver):s.stop={ s with run:=false }:=by unfold RS.stop;rw[if_pos ⟨h1,h2⟩]
theorem nr {s:RS} (h:¬(s.run=true/\s.limit<=s.deliver)):s.stop=s:=by unfold RS.stop;rw[if_neg h]
theorem tf (g:Nat) (s:RS) (W R:Nat->Prop) (sb:Nat) (l:List SE) (ub eb:Nat) (w:World) (h:aN w g s W R sb l ub eb) (hro:0<=s.C.ro/\s.C.ro<=1073741824) :
  Calls Tryz.prog 53 #[.pointer (some ⟨g,0,none⟩)] w fun e w'=>e=.returned (.tuple #[])/\aN w' g s.timer W R sb l ub eb/\aa (fun k=>k=g) w w':=by
 have HT:=zh h;have HRO:=zh hro;have c1:=h.crun;have c2:=h.cdeliver;have c3:=h.climit;have f1:=h.fr 44;obtain⟨dl,hdl⟩:∃x,x=s.deliver:=⟨_,rfl⟩
 obtain⟨lm,hlm⟩:∃x,x=s.limit:=⟨_,rfl⟩
 rw[<-hdl]at c2;rw[<-hlm]at c3;have HE:=zh (And.intro hdl hlm);clear h hdl hlm hro
 cases hrn:s.run
 ·rw[hrn]at c1;have HRN:=zh hrn;clear hrn;go_enter Tryz.func53,Tryz.ntmps53;go_upto_region 0 with (fail)
  go_region;go_upto_region 2 with (fail)
  refine ah (fun V=>aN V g s W R sb l ub eb/\aa (fun k=>k=g) w V) ⟨by first | exact HT.out | exact HT.out.drew_,aa.refl.drew⟩ ?_;rintro V ⟨tv,kv⟩;obtain⟨s1,hs1⟩:∃x,x=s:=⟨_,rfl⟩
  have HS:=zh (show s.timer=s1.start by unfold RS.timer;rw[nr (fun h=>by rw[HRN.out]at h;exact absurd h.1 (by decide)),hs1]);have HR1:=zh (show s1.run=false by first | (rw[hs1];done) | (rw[hs1];exact HRN.out));have HC1:=zh (show s1.C.ro=s.C.ro by rw[hs1]);rw[<-hs1]at tv;have TV:=zh tv;have KV:=zh kv;clear tv kv hs1 c1 c2 c3 f1;have d1:=TV.out.crun;rw[HR1.out]at d1;have d2:=TV.out.cdeliver;have d3:=TV.out.cnext;have d4:=TV.out.cnow;have d5:V.cell? ⟨g,38,none⟩=some (.int .i64 s1.C.ro):=TV.out.cC (j:=38) (by decide);have e5:=TV.out.climit;have e6:=TV.out.cexpiry;have f4:=TV.out.fr 44;have f5:=TV.out.fr 45;have f6:=TV.out.fr 46;have hro:=HRO.out;rw[<-HC1.out]at hro;have hnow:=TV.out.ok.now;have hnx:=TV.out.ok.next;have hdv:=TV.out.ok.deliver;obtain⟨ro,hroo⟩:∃x,x=s1.C.ro:=⟨_,rfl⟩
  obtain⟨dv,hdvv⟩:∃x,x=s1.deliver:=⟨_,rfl⟩
  obtain⟨nx,hnxx⟩:∃x,x=s1.next:=⟨_,rfl⟩
  obtain⟨nw,hnww⟩:∃x,x=s1.now:=⟨_,rfl⟩
  rw[<-hroo]at d5 hro;rw[<-hdvv]at d2 hdv;rw[<-hnxx]at d3 hdv hnx;rw[<-hnww]at d4 hnow;have HQ:=zh (And.intro hroo (And.intro hdvv (And.intro hnxx hnww)));clear hroo hdvv hnxx hnww;by_cases r1:0 < ro
  ·by_cases r2:dv < nx
   ·have T4:=TV.out.setRun true;have T5:=T4.setLimit nx ⟨by omega,by rw[HQ.out.2.2.1];exact Int.le_refl _⟩;have T6:=zh (T5.setExpiry (nw+ro) ⟨by omega,by omega⟩);have K6:=zh (((KV.out.setCell (p:=⟨g,44,none⟩) rfl (.bool true)).setCell (p:=⟨g,45,none⟩) rfl (.int .u64 nx)).setCell (p:=⟨g,46,none⟩) rfl (.int .i64 (nw+ro)));have HX:=zh (show s.timer={ s1 with run:=true,limit:=nx,expiry:=nw+ro } by rw[HS.out,mj HR1.out (by rw[<-HQ.out.1];exact r1) (by rw[<-HQ.out.2.1,<-HQ.out.2.2.1];exact r2),<-HQ.out.1,<-HQ.out.2.2.1,<-HQ.out.2.2.2]);have ww:IntKind.i64.wrap (nw+ro)=nw+ro:=by simp[IntKind.wrap_i64];omega
    clear T4 T5 hdv hnow hro hnx;go_region;go_upto_region 3 with (fail)
    go_region;go_wp2;go_end0
    exact⟨rfl,by rw[HX.out];first | exact T6.out | exact T6.out.drew_ | exact T6.out.drew_.drew_ | exact T6.out.drew_.drew_.drew_,by first | exact K6.out | exact K6.out.drew | exact K6.out.drew.drew | exact K6.out.drew.drew.drew⟩
   ·have HX:=zh (show s.timer=s1 by rw[HS.out,fg (fun h=>r2 (by rw[HQ.out.2.1,HQ.out.2.2.1];exact h.2.2))]);go_region;go_wp2;go_end0
    exact⟨rfl,by rw[HX.out];first | exact TV.out | exact TV.out.drew_ | exact TV.out.drew_.drew_ | exact TV.out.drew_.drew_.drew_,by first | exact KV.out | exact KV.out.drew | exact KV.out.drew.drew | exact KV.out.drew.drew.drew⟩
  ·have HX:=zh (show s.timer=s1 by rw[HS.out,fg (fun h=>r1 (by rw[HQ.out.1];exact h.2.1))]);go_region;go_wp2;go_end0
   exact⟨rfl,by rw[HX.out];first | exact TV.out | exact TV.out.drew_ | exact TV.out.drew_.drew_ | exact TV.out.drew_.drew_.drew_,by first | exact KV.out | exact KV.out.drew | exact KV.out.drew.drew | exact KV.out.drew.drew.drew⟩
 ·rw[hrn]at c1;have HRN:=zh hrn;clear hrn;by_cases t1:lm<=dl
  ·have T1:=zh (HT.out.setRun false);have K1:=zh (aC w g 44 (.bool false));go_enter Tryz.func53,Tryz.ntmps53;go_upto_region 0 with (fail)
   go_region;go_upto_region 2 with (fail)
   refine ah (fun V=>aN V g { s with run:=false } W R sb l ub eb/\aa (fun k=>k=g) w V) ⟨by first | exact T1.out | exact T1.out.drew_,by first | exact K1.out | exact K1.out.drew⟩ ?_;rintro V ⟨tv,kv⟩;obtain⟨s1,hs1⟩:∃x,x={ s with run:=false }:=⟨_,rfl⟩
   have HS:=zh (show s.timer=s1.start by unfold RS.timer;rw[vR HRN.out (by rw[<-HE.out.1,<-HE.out.2];exact t1),hs1]);have HR1:=zh (show s1.run=false by first | (rw[hs1];done) | (rw[hs1];exact rfl));have HC1:=zh (show s1.C.ro=s.C.ro by rw[hs1]);rw[<-hs1]at tv;have TV:=zh tv;have KV:=zh kv;clear tv kv hs1 c1 c2 c3 f1;have d1:=TV.out.crun;rw[HR1.out]at d1;have d2:=TV.out.cdeliver;have d3:=TV.out.cnext;have d4:=TV.out.cnow;have d5:V.cell? ⟨g,38,none⟩=some (.int .i64 s1.C.ro):=TV.out.cC (j:=38) (by decide);have e5:=TV.out.climit;have e6:=TV.out.cexpiry;have f4:=TV.out.fr 44;have f5:=TV.out.fr 45;have f6:=TV.out.fr 46;have hro:=HRO.out;rw[<-HC1.out]at hro;have hnow:=TV.out.ok.now;have hnx:=TV.out.ok.next;have hdv:=TV.out.ok.deliver;obtain⟨ro,hroo⟩:∃x,x=s1.C.ro:=⟨_,rfl⟩
   obtain⟨dv,hdvv⟩:∃x,x=s1.deliver:=⟨_,rfl⟩
   obtain⟨nx,hnxx⟩:∃x,x=s1.next:=⟨_,rfl⟩
   obtain⟨nw,hnww⟩:∃x,x=s1.now:=⟨_,rfl⟩
   rw[<-hroo]at d5 hro;rw[<-hdvv]at d2 hdv;rw[<-hnxx]at d3 hdv hnx;rw[<-hnww]at d4 hnow;have HQ:=zh (And.intro hroo (And.intro hdvv (And.intro hnxx hnww)));clear hroo hdvv hnxx hnww;by_cases r1:0 < ro
   ·by_cases r2:dv < nx
    ·have T4:=TV.out.setRun true;have T5:=T4.setLimit nx ⟨by omega,by rw[HQ.out.2.2.1];exact Int.le_refl _⟩;have T6:=zh (T5.setExpiry (nw+ro) ⟨by omega,by omega⟩);have K6:=zh (((KV.out.setCell (p:=⟨g,44,none⟩) rfl (.bool true)).setCell (p:=⟨g,45,none⟩) rfl (.int .u64 nx)).setCell (p:=⟨g,46,none⟩) rfl (.int .i64 (nw+ro)));have HX:=zh (show s.timer={ s1 with run:=true,limit:=nx,expiry:=nw+ro } by rw[HS.out,mj HR1.out (by rw[<-HQ.out.1];exact r1) (by rw[<-HQ.out.2.1,<-HQ.out.2.2.1];exact r2),<-HQ.out.1,<-HQ.out.2.2.1,<-HQ.out.2.2.2]);have ww:IntKind.i64.wrap (nw+ro)=nw+ro:=by simp[IntKind.wrap_i64];omega
     clear T4 T5 hdv hnow hro hnx;go_region;go_upto_region 3 with (fail)
     go_region;go_wp2;go_end0
     exact⟨rfl,by rw[HX.out];first | exact T6.out | exact T6.out.drew_ | exact T6.out.drew_.drew_ | exact T6.out.drew_.drew_.drew_,by first | exact K6.out | exact K6.out.drew | exact K6.out.drew.drew | exact K6.out.drew.drew.drew⟩
    ·have HX:=zh (show s.timer=s1 by rw[HS.out,fg (fun h=>r2 (by rw[HQ.out.2.1,HQ.out.2.2.1];exact h.2.2))]);go_region;go_wp2;go_end0
     exact⟨rfl,by rw[HX.out];first | exact TV.out | exact TV.out.drew_ | exact TV.out.drew_.drew_ | exact TV.out.drew_.drew_.drew_,by first | exact KV.out | exact KV.out.drew | exact KV.out.drew.drew | exact KV.out.drew.drew.drew⟩
   ·have HX:=zh (show s.timer=s1 by rw[HS.out,fg (fun h=>r1 (by rw[HQ.out.1];exact h.2.1))]);go_region;go_wp2;go_end0
    exact⟨rfl,by rw[HX.out];first | exact TV.out | exact TV.out.drew_ | exact TV.out.drew_.drew_ | exact TV.out.drew_.drew_.drew_,by first | exact KV.out | exact KV.out.drew | exact KV.out.drew.drew | exact KV.out.drew.drew.drew⟩
  ·have HX:=zh (show s.timer=s by unfold RS.timer;rw[nr (fun h=>t1 (by rw[HE.out.1,HE.out.2];exact h.2)),fg (fun h=>by rw[HRN.out]at h;exact absurd h.1 (by decide))]);go_enter Tryz.func53,Tryz.ntmps53;go_upto_region 0 with (fail)
   go_region;go_upto_region 2 with (fail)
   go_region;go_wp2;go_end0
   exact⟨rfl,by rw[HX.out];first | exact HT.out.drew_ | exact HT.out.drew_.drew_,by first | exact aa.refl.drew | exact aa.refl.drew.drew⟩
end Go.Proofs.YtbfpdnnphdagjaaGreat
namespace Go.Proofs.YtbfpdnnphdagjaaGreat
open Go.RowKit
def nP {α ι:Type} (F:Fence) (n:Nat) (P:Program) (g:Nat) (lb:Array Value) (encs:α->Array Value) (R0:World->Prop) (Rk:ι->List α->World->Prop) (St:World->World->Prop) (S:List α->Prop):Prop:=
 ∀(l:Nat) (J:List α->World->Prop) (W:World),R0 W->(∀pre A B,J pre A->St A B->J pre B)->
  (∀i pre x W1,J pre W1->Rk i (pre++[x]) W1->YieldAt F (n-1) P l (encs x) W1 fun e W'=>e=.returned (.bool true)/\J (pre++[x]) W'/\Rk i (pre++[x]) W')->
  J [] W->
  CallsIn F n P g (#[.func (.yield l) #[] #[]]++lb) W fun e W'=>(∃v,e=.returned v)/\∃i xs,S xs/\J xs W'/\Rk i xs W'
def cX {β:Type} (B:Nat) (I:β->World->Prop):Prop:=
 ∀s W W' row,I s W->W.grownBy W' row->(∀r,row=some r->B<=r/\∃o:Obj,W.heap[r]? = some o/\o.isCells=false/\o.isWalk=false)->I s W'
theorem cX.putObj {β:Type} {B:Nat} {I:β->World->Prop} (h:cX B I) {s:β} {W:World} {l:Nat} {o:Obj} (o':Obj) (hs:I s W) (hB:B<=l) (hl:W.heap[l]? = some o) (ho:o.isCells=false) (hw:o.isWalk=false):I s (W.putObj l o'):=
 h s W _ (some l) hs (grownBy_putObj' W l o') (fun r e=>by cases e;exact⟨hB,o,hl,ho,hw⟩)
theorem cX.alloc {β:Type} {B:Nat} {I:β->World->Prop} (h:cX B I) {s:β} {W:World} (o:Obj) (hs:I s W):I s (W.alloc o):=
 h s W _ none hs (World.grownBy_alloc W o none) (fun r e=>by cases e)
def wK (B:Nat) (W:World) (G:World->Prop):Exit->Act->World->Prop
 | .normal,_,W'=>KeepsFrom B W W'/\G W'
 | _,_,_=>False
theorem aa.same {Fo:Nat->Prop} {A B:World} {k:Nat} {o:Obj} (h:aa Fo A B) (hk:A.heap[k]? = some o) (hn:¬Fo k):B.heap[k]? = some o:=(h.block k (Array.getElem?_eq_some_iff.1 hk).1 hn).trans hk
theorem d6 {F:Fence} {n:Nat} {P:Program} {α ι:Type} {g:Operand} {ps:Array Tmp} {assign body:Code} {Q:Exit->Act->World->Prop} {a:Act} {w:World}
  (hro:F.round=none) (h1:1<=n) {gf:Nat} {lb:Array Value} (hg:a.eval g=.func (.func gf) #[] lb) (hFg:F.fn gf) (eg:∀args w,(callFunc gf args).run P w=.ok (.enter gf args) w)
  {encs:α->Array Value} {R0:World->Prop} {Rk:ι->List α->World->Prop} {St:World->World->Prop} {S:List α->Prop} (hseq:nP F (n-1) P gf lb encs R0 Rk St S) (hps:∀x,(encs x).size=ps.size)
  (hSt:∀A B k o,St A B->w.heap.size<=k->A.heap[k]? = some o->o.isCells=false->o.isWalk=false->B.heap[k]? = some o) (I:List α->World->Prop) (hI:cX w.heap.size I) (hIF:∀pre A B,I pre A->St A B->I pre B) (hR:∀i,cX w.heap.size (Rk i)) (h0:I [] w) (hR0:cX w.heap.size (fun(_:Unit)=>R0)) (hR1:R0 w) (a₁:α->Act)
  (hassign:∀(l:Nat) (x:α) (W:World) (K:Act->World->Prop),K (a₁ x) W->
   assign.wpIn (F.inRound l) (n-1-1) P (Exit.then K (fun _ _ _=>False)) { tmps:=(ps.zip (encs x)).foldl (fun t (p,v)=>t.setIfInBounds p v) a.tmps,defers:=[] } W)
  (hbody:∀(l:Nat) (i:ι) (pre:List α) (x:α) (W:World),I pre W->Rk i (pre++[x]) W->body.wpIn (F.inRound l) (n-1-1) P (wK w.heap.size W fun W'=>I (pre++[x]) W'/\Rk i (pre++[x]) W') (a₁ x) W)
  (hdone:∀(D:Nat) (i:ι) (xs:List α) (W:World),w.heap.size<=D->S xs->I xs W->Rk i xs W->W.heap[D]? = some (.deferred (some []))->Q .normal { a with defers:={ target:=.collected D,args:=#[] } :: a.defers } W) :
  (Code.rangeFunc g ps assign body).wpIn F n P Q a w:=by
 refine wpIn_rangeFunc fun fn hfn=>?_;rw[hro];obtain⟨rec,hrec⟩:∃rec:LoopState->Option Code->Loop,rec=fun st pe=>{ state:=st,pending:=pe,fn,tmps:=a.tmps,params:=ps,assign,body,defers:=w.heap.size }:=⟨_,rfl⟩
 obtain⟨r,hr0⟩:=af (w.heap.size+1)
 obtain⟨W1,hW1⟩:∃W1,(w.alloc (.deferred (some []))).alloc (.loop (rec .ready none))=W1:=⟨_,rfl⟩
 have hL1:W1.heap[r]? = some (.loop (rec .ready none)):=by
  rw[<-hW1,hr0];have:=World.alloc_heap_new (w.alloc (.deferred (some []))) (.loop (rec .ready none))
  rwa [World.size_alloc]at this
 have hK1:W1.heap[w.heap.size]? = some (.deferred (some [])):=by
  rw[<-hW1]
  exact(Below.heap_alloc _ _ _ (by simp)).trans (World.alloc_heap_new w _)
 have hI1:I [] W1:=by rw[<-hW1];exact hI.alloc _ (hI.alloc _ h0)
 have hR2:R0 W1:=by rw[<-hW1];exact hR0.alloc (s:=()) _ (hR0.alloc (s:=()) _ hR1)
 refine⟨r,[{ target:=.collected w.heap.size,args:=#[] }],W1,{ target:=.fn (.func gf) lb,args:=#[.func (.yield r) #[] #[]] },W1,gf,#[.func (.yield r) #[] #[]]++lb,W1,?_,?_,?_,?_,fun _=>h1,?_⟩
 ·rw[<-hW1,hrec,hr0];exact run_enterLoop_outer _ _ _ _ _
 ·simp only[resolve,hg];simp[go_sem]
 ·intro f' hf';simp[Target.leads]at hf';subst hf'
  exact hFg
 ·simp[invoke,go_sem,eg]
 ·refine(hseq r (fun pre W=>I pre W/\W.heap[r]? = some (.loop (rec .ready none))/\W.heap[w.heap.size]? = some (.deferred (some []))) W1 hR2
   (fun pre A B h hk=>⟨hIF pre A B h.1 hk,hSt A B r _ hk (by omega) h.2.1 rfl rfl,hSt A B _ _ hk ay h.2.2 rfl rfl⟩) ?_ ⟨hI1,hL1,hK1⟩).mono ?_
  ·rintro i pre x W ⟨hi,hl,hk⟩ hrk;have hlt:r < W.heap.size:=(Array.getElem?_eq_some_iff.1 hl).1;have hy:=run_yield (P:=P) (args:=encs x) hl (by rw[hrec];exact hps x);rw[hrec]at hy;refine⟨fn,_,assign,body,hy,roundIn_of_wpIn hfn (hassign _ x W _ ⟨_,run_beginRound hl (by rw[hrec]),?_⟩)⟩;obtain⟨W2,hW2⟩:∃W2,W.putObj r (.loop { rec .ready none with state:=.busy })=W2:=⟨_,rfl⟩
   rw[hW2];have hl2:W2.heap[r]? = some (.loop { rec .ready none with state:=.busy }):=by rw[<-hW2];exact World.putObj_heap_same hlt
   have hk2:W2.heap[w.heap.size]? = some (.deferred (some [])):=by rw[<-hW2];exact(World.putObj_heap_other (by omega)).trans hk
   have hi2:I pre W2:=by rw[<-hW2];exact hI.putObj _ hi (by omega) hl rfl rfl
   have hr2:Rk i (pre++[x]) W2:=by rw[<-hW2];exact(hR i).putObj _ hrk (by omega) hl rfl rfl
   refine wpIn_mono (hbody _ i pre x W2 hi2 hr2) ?_;rintro e a3 W3 hp
   cases e with
   | normal=>
    obtain⟨hk3,hi3,hr3⟩:=hp;have hl3:=hk3.same _ _ (by omega) hl2 rfl;have hend:=run_endRound (P:=P) none hl3;rw[hrec]at hend hl3;refine⟨_,_,hend,rfl,⟨hI.putObj _ hi3 (by omega) hl3 rfl rfl,?_,(World.putObj_heap_other (by omega)).trans (hk3.same _ _ ay hk2 rfl)⟩,(hR i).putObj _ hr3 (by omega) hl3 rfl rfl⟩;rw[hrec]
    exact World.putObj_heap_same (Array.getElem?_eq_some_iff.1 hl3).1
   | ret=>exact hp.elim
   | exit id=>exact hp.elim
   | goto t=>exact hp.elim
   | panic ch=>exact hp.elim
   | outgrown=>exact hp.elim
  ·rintro e W2 ⟨⟨v,rfl⟩,i,xs,hxs,⟨hi,hl,hk⟩,hrk⟩;have hend:=run_endLoop (P:=P) hl (by rw[hrec];simp);rw[hrec]at hend hl
   exact⟨none,_,hend,hdone _ i _ _ ay hxs (hI.putObj _ hi (by omega) hl rfl rfl) ((hR i).putObj _ hrk (by omega) hl rfl rfl) ((World.putObj_heap_other (by omega)).trans hk)⟩
end Go.Proofs.YtbfpdnnphdagjaaGreat
namespace Go.Proofs.YtbfpdnnphdagjaaGreat
open Go.RowKit
attribute [local go_sem] Oper.semAt_some
def eq:List SE->Int->List SE×List SE
 | [],d=>([],[])
 | e :: r,d=>if e.v.ct=d then (e :: (eq r (d+1)).1,(eq r (d+1)).2) else ([],e :: r)
theorem mr:∀(l:List SE) (d:Int),(eq l d).1.map (·.v)=(aU (l.map (·.v)) d).1/\(eq l d).2.map (·.v)=(aU (l.map (·.v)) d).2.1
 | [],d=>⟨rfl,rfl⟩
 | e :: r,d=>by
  have h:=mr r (d+1);rw[List.map_cons];unfold eq aU
  split
  ·exact⟨by rw[List.map_cons,h.1],h.2⟩
  ·exact⟨rfl,rfl⟩
theorem mW:∀(l:List SE) (d:Int),(eq l d).1++(eq l d).2=l
 | [],d=>rfl
 | e :: r,d=>by
  unfold eq
  split
  ·simp only[List.cons_append,mW r (d+1)]
  ·rfl
def oJ (l:List SE) (d:Int):Prop:=∀(k:Nat) (e:SE),l[k]? = some e->e.v.ct=d+k
theorem oD:∀(pre rest:List SE) (d:Int),oJ pre d->(∀e r,rest=e :: r->e.v.ct ≠ d+pre.length)->eq (pre++rest) d=(pre,rest)
 | [],[],d,_,_=>rfl
 | [],e :: r,d,_,h=>by
  have:=h e r rfl;unfold eq;simp only[List.nil_append];rw[if_neg (by simpa using this)]
 | e :: p,rest,d,hc,h=>by
  have h0:e.v.ct=d:=by have:=hc 0 e rfl;simpa using this
  have ih:=oD p rest (d+1) (fun k x hk=>by have:=hc (k+1) x (by simpa using hk);rw[this];push_cast;omega) (fun x r hx=>by have:=h x r hx;simp only[List.length_cons]at this;push_cast at this;omega);rw[List.cons_append];unfold eq;rw[if_pos h0,ih]
def jS (w:World) (m:Nat):Nat:=match w.heap[m]? with | some (.map es _)=>es.size | _=>0
theorem SM.size {w:World} {m:Nat} {l:List SE} (h:SM w m l):jS w m=l.length:=by
 obtain⟨es,c,h1,h2,h3,h4⟩:=h;unfold jS;rw[h1];have:l.map SE.kv=(es.toList.map (WideElems.rg Tryz.prog 66 RV)).foldr DataW.insert []:=by injection h4
 have h5:=congrArg List.length this;rw[length_sorted]at h5;simpa using h5.symm
def jv (g:Nat) (s:RS) (Ws R:Nat->Prop) (sb:Nat) (l0:List SE) (ub eb bx:Nat) (pre:List SE) (W:World):Prop:=
 ∃rest,l0=pre++rest/\oJ pre s.deliver/\aN W g { s with L:=rest.map (·.v),deliver:=s.deliver+pre.length } Ws R sb rest ub eb/\ae W bx 32 #[.pointer (some ⟨g,0,none⟩)]
theorem tg {pre:List SE} {d:Int} {e:SE} (h:oJ pre d) (he:e.v.ct=d+pre.length):oJ (pre++[e]) d:=fun k x hk=>by
 rcases Nat.lt_trichotomy k pre.length with h1 | h1 | h1
 ·rw[List.getElem?_append_left h1]at hk;exact h k x hk
 ·subst h1;rw[List.getElem?_append_right ay,Nat.sub_self]at hk;have:e=x:=by simpa using hk
  rw[<-this];exact he
 ·rw[List.getElem?_eq_none (by simp;omega)]at hk;cases hk
def xC (v:Value) (b:Bool) (rest:List SE) (d:Int):Prop:=(∃e r,rest=e :: r/\e.v.ct=d/\v=e.val/\b=true)\/((∀e r,rest=e :: r->e.v.ct ≠ d)/\v=.slice none 0 0/\b=false)
theorem aN.look {w:World} {g:Nat} {s:RS} {W R:Nat->Prop} {sb:Nat} {l:List SE} {ub eb:Nat} (h:aN w g s W R sb l ub eb) :
  ∃v b,(∀V:World,V.heap[sb]? = w.heap[sb]?->(Instr.lookup 87 (.map (some sb)) (.int .u64 s.deliver) true).run Tryz.prog V=.ok (.tuple #[v,.bool b]) V)/\xC v b l s.deliver:=by
 have h0:=h.ok.deliver;have h1:=h.ok.next;have key:∀V:World,V.heap[sb]? = w.heap[sb]?->(Instr.lookup 87 (.map (some sb)) (.int .u64 s.deliver) true).run Tryz.prog V=.ok (.tuple #[(match bn s.deliver l with | some e=>e.val | none=>.slice none 0 0),.bool (bn s.deliver l).isSome]) V:=fun V hV=>by
  obtain⟨es,c,e1,e2⟩:=h.st
  exact iq ⟨es,c,hV.trans e1,e2⟩ h0.1 (by omega)
 cases hl:l with
 | nil=>
  subst hl
  exact⟨_,_,key,.inr ⟨fun e r h=>(by cases h),rfl,rfl⟩⟩
 | cons e r=>
  subst hl;have hf:=rD (f:=s.deliver) h.ris (fun x hx=>(h.rng x hx).1);by_cases he:e.v.ct=s.deliver
  ·rw[if_pos he]at hf;rw[hf]at key
   exact⟨_,_,key,.inl ⟨e,r,rfl,he,rfl,rfl⟩⟩
  ·rw[if_neg he]at hf;rw[hf]at key
   exact⟨_,_,key,.inr ⟨fun x r' h=>(by injection h with h1 h2;subst h1;exact he),rfl,rfl⟩⟩
theorem aN.del {w:World} {g:Nat} {s:RS} {W R:Nat->Prop} {sb:Nat} {e:SE} {r:List SE} {ub eb:Nat} (h:aN w g s W R sb (e :: r) ub eb) (he:e.v.ct=s.deliver) :
  ∃w',(∀ty,(Builtin.delete_ #[87,66] ty #[.map (some sb),.int .u64 s.deliver]).run Tryz.prog w=.ok (.tuple #[]) w')/\aN w' g { s with L:=r.map (·.v) } W R sb r ub eb/\aa (fun k=>k=sb) w w'/\s.deliver+1<=s.next/\(∀x,x∈r->s.deliver+1<=x.v.ct):=by
 have h0:=h.ok.deliver;have h1:=h.ok.next;obtain⟨w',hrun,hm,hk⟩:=u7 h.st (f:=s.deliver) h0.1 (by omega) 0;have hd:ph s.deliver (e :: r)=r:=by rw[<-he];exact tz h.ris
 rw[hd]at hm;have hr:(∀x,x∈r->e.v.ct < x.v.ct)/\bV r:=List.pairwise_cons.1 h.ris;refine⟨w',fun ty=>hrun,h.setMap hk hm hr.2 rfl (fun x hx=>h.rng x (by simp[hx])) (fun x hx=>h.pk x (by simp[hx])),hk,?_,fun x hx=>?_⟩
 ·have:=(h.rng e (by simp)).2;omega
 ·have:=hr.1 x hx;omega
theorem l5 {P:Program} {o:Oper} {a:Act} {w w':World} {K:Act->World->Prop} {Q:Exit->Act->World->Prop} {t k:TypeId} {vx vy r:Value} (x y:Operand) (ho:o.op=.call { callee:=.builtin .delete,args:=#[x,y],argTypes:=#[t,k] })
  (hx:a.eval x=vx) (hy:a.eval y=vy) (hrun:∀ty,(Builtin.delete_ #[t,k] ty #[vx,vy]).run P w=.ok r w') (hK:K (a.put o.dst r) w'):o.wp P a w K Q:=by
 unfold Oper.wp execOp;simp only[ho,resolve,invoke,builtin,Sem.run_bind,Sem.run_pure,Result.andThen_ok,List.map_toArray,List.map_cons,List.map_nil,hx,hy,hrun]
 exact hK
theorem uJ (g:Nat) (s:RS) (Ws R:Nat->Prop) (sb:Nat) (l0:List SE) (ub eb bx n:Nat) (hn:1<=n) (hbg:bx ≠ g) (hbs:bx ≠ sb) :
  nP Fence.wide n Tryz.prog 77 #[.pointer (some ⟨bx,0,none⟩)] (fun e:SE=>#[e.val]) (jv g s Ws R sb l0 ub eb bx []) (fun _:Unit=>jv g s Ws R sb l0 ub eb bx) (aa (fun k=>k=g\/k=sb)) (fun xs=>xs=(eq l0 s.deliver).1):=fun l J W h0 hJ hY hJ0=>by
 have HJ:=zh hJ;have HY:=zh hY;have HBX:=zh (And.intro hbg hbs);clear hJ hY;obtain⟨rest,hl0,hc0,hT,hB⟩:=h0;have hT:aN W g { s with L:=rest.map (·.v),deliver:=s.deliver } Ws R sb rest ub eb:=by simpa using hT
 obtain⟨v,b,hlk,hlo⟩:=hT.look;have HLK:=zh hlk;have HLO:=zh hlo;have HT:=zh hT;have HB:=zh hB;have b0:W.cell? ⟨bx,0,none⟩=some (.pointer (some ⟨g,0,none⟩)):=hB.cell 0;have c2:=hT.cs;obtain⟨d0,hd0⟩:∃x,x=s.deliver:=⟨_,rfl⟩
 have c1:W.cell? ⟨g,41,none⟩=some (.int .u64 d0):=by rw[hd0];exact hT.cdeliver
 have hlk1:(Instr.lookup 87 (.map (some sb)) (.int .u64 d0) true).run Tryz.prog W.drew=.ok (.tuple #[v,.bool b]) W.drew:=by rw[hd0];exact hlk _ rfl
 have HD0:=zh hd0;have HL0:=zh hl0;have HC0:=zh hc0;clear hT hB hlk hlo hd0 hl0 hc0;refine callsIn_of_wp Tryz.func77 rfl trivial ?_ rfl;simp only[Tryz.ntmps77,List.size_toArray,List.length_cons,List.length_nil,Nat.reduceAdd,Nat.reduceSub,Array.replicate_succ,Array.replicate_zero,List.push_toArray,List.append_toArray,List.nil_append,List.cons_append]
 gi_wp2
 refine wpIn_wide.2 ?_;go_region;clear hlk1 b0 c1 c2
 gi_wp2
 gi_loopw [3,4] (fun v3 v4 wr=>∃(pre rest:List SE) (v:Value) (b:Bool),l0=pre++rest/\oJ pre s.deliver/\aN wr g { s with L:=rest.map (·.v),deliver:=s.deliver+pre.length } Ws R sb rest ub eb/\ae wr bx 32 #[.pointer (some ⟨g,0,none⟩)]/\J pre wr/\v3=v/\v4=.bool b/\xC v b rest (s.deliver+pre.length)) (fun _ _ wr=>jS wr sb)
 case atStart=>exact⟨[],rest,v,b,HL0.out,HC0.out,by simpa using HT.out.drew_,HB.out.drew,HJ.out _ _ _ hJ0 aa.refl.drew,rfl,rfl,by simpa using HLO.out⟩
 case round=>
  clear HLK HLO HT HB HD0 HL0 HC0 hJ0;obtain⟨pre,rest,v1,b1,hl0,hc0,hT,hB,hJp,rfl,rfl,hlo⟩:=hrel;have HL0:=zh hl0;have HC0:=zh hc0;have HT:=zh hT;have HB:=zh hB;have HJP:=zh hJp;clear hl0 hc0 hT hB hJp;rcases hlo with ⟨e,r,rfl,he,rfl,rfl⟩ | ⟨hne,rfl,rfl⟩
  rotate_left
  ·have HS:=zh (show(eq l0 s.deliver).1=pre by rw[HL0.out,oD pre rest s.deliver HC0.out hne])
   gi_wp2
   go_end0
   exact⟨⟨_,rfl⟩,(),pre,HS.out.symm,HJP.out,⟨rest,HL0.out,HC0.out,HT.out,HB.out⟩⟩
  ·obtain⟨d,hd⟩:=af (s.deliver+(pre.length:Int))
   have HD:=zh hd;have TW:=HT.out.drew_;rw[<-hd]at TW he;obtain⟨w1,hdel,hT1,hK1,hnx,hge⟩:=TW.del he;have hok:=TW.ok;have hdd:=hok.deliver;have hdn:=hok.next;have HRD:=zh (show ∀W',aa (fun k=>k=sb) wr W'->W'.cell? ⟨bx,0,none⟩=some (.pointer (some ⟨g,0,none⟩))/\W'.cell? ⟨g,43,none⟩=some (.map (some sb))/\W'.cell? ⟨g,41,none⟩=some (.int .u64 d)from fun W' hW=>⟨(hW.blk HB.out HBX.out.2).cell 0,(hW.cell (p:=⟨g,43,none⟩) HT.out.blk.lt HT.out.gs).trans HT.out.cs,(hW.cell (p:=⟨g,41,none⟩) HT.out.blk.lt HT.out.gs).trans TW.cdeliver⟩);have HT1:=zh hT1;have hK2:aa (fun k=>k=sb) wr w1:=(aa.refl (F:=fun k=>k=sb) (w:=wr)).drew.trans hK1 (fun _ _ h=>h);have HK2:=zh hK2;have HDEL:=zh hdel;have hd0:0<=d:=hdd.1;have hd1:d+1<=4294967296:=Int.le_trans hnx hdn;have hT2:=hT1.setDeliver (d+1) ⟨by omega,hnx⟩ hge;have hK3:aa (fun k=>k=g\/k=sb) wr (w1.setCell ⟨g,41,none⟩ (.int .u64 (d+1))):=(hK2.mono (fun k h=>.inr h)).setCell (p:=⟨g,41,none⟩) (.inl rfl) _;have hBX3:ae (w1.setCell ⟨g,41,none⟩ (.int .u64 (d+1))) bx 32 #[.pointer (some ⟨g,0,none⟩)]:=hK3.blk HB.out (fun h=>by rcases h with h | h;exact HBX.out.1 h;exact HBX.out.2 h);have hF3:jv g s Ws R sb l0 ub eb bx (pre++[e]) (w1.setCell ⟨g,41,none⟩ (.int .u64 (d+1))):=⟨r,by rw[HL0.out];simp,tg HC0.out (by rw[he,hd]),by
    have e1:s.deliver+((pre++[e]).length:Int)=d+1:=by rw[hd];simp;omega
    rw[e1]
    exact hT2,hBX3⟩
   obtain⟨fn,tm,asg,bd,hy,hR⟩:=HY.out () pre e _ (HJ.out _ _ _ HJP.out hK3) hF3;have HRr:=zh hR;have HM:=zh (show jS wr sb=r.length+1 from HT.out.st.size);have e1c:=hT1.cdeliver;have e1f:=hT1.fr 41;have e1b:w1.cell? ⟨bx,0,none⟩=some (.pointer (some ⟨g,0,none⟩)):=(HRD.out _ hK2).1;have wd1:IntKind.u64.wrap (d+1)=d+1:=by simp[IntKind.wrap_u64];omega
   clear TW hdel hT1 hK1 hnx hge hok hdd hdn hT2 hK3 hBX3 hF3 hR hd he
   gi_wp2
   refine wpIn_wide.2 ?_;refine wp_region_held_drew (S:=fun w'=>aa (fun k=>k=sb) wr w') (by kernel_rfl) ((aa.refl (F:=fun k=>k=sb) (w:=wr)).drew) (fun hHeld=>?_);refine bE (i:=0) (x:=some 30) (v:=.pointer (some ⟨g,0,none⟩)) rfl (.inl ⟨by rfl,fun W hW=>(by have:=(HRD.out W hW).1;go_simp)⟩) ?_;refine az (i:=1) (x:=some 31) (v:=.pointer (some ⟨g,0,none⟩)) rfl ?_;refine az (i:=2) (x:=some 32) (v:=.pointer (some ⟨g,43,none⟩)) rfl ?_;refine bE (i:=3) (x:=some 33) (v:=.map (some sb)) rfl (.inl ⟨by rfl,fun W hW=>(by have:=(HRD.out W hW).2.1;go_simp)⟩) ?_;refine bE (i:=4) (x:=some 34) (v:=.pointer (some ⟨g,0,none⟩)) rfl (.inl ⟨by rfl,fun W hW=>(by have:=(HRD.out W hW).1;go_simp)⟩) ?_;refine az (i:=5) (x:=some 35) (v:=.pointer (some ⟨g,0,none⟩)) rfl ?_;refine az (i:=6) (x:=some 36) (v:=.pointer (some ⟨g,41,none⟩)) rfl ?_;refine bE (i:=7) (x:=some 37) (v:=.int .u64 d) rfl (.inl ⟨by rfl,fun W hW=>(by have:=(HRD.out W hW).2.2;go_simp)⟩) ?_;refine aL (i:=8) (x:=none) rfl fun K hK=>?_;refine l5 _ _ rfl rfl rfl HDEL.out ?_;refine hK.out _ _ hK2 (fun hHeld=>?_);clear hK K
   try simp only[Act.put]
   refine wpAnyH_done (by kernel_rfl) ?_ _;clear hHeld hK2
   gi_wp2
   refine HRr.out.mono ?_;rintro en w4 ⟨rfl,hJ4,hF4⟩;obtain⟨rest4,hl4,hc4,hT4,hB4⟩:=hF4;have hr4:rest4=r:=by
    have:=HL0.out;rw[hl4,List.append_assoc]at this;have:=List.append_cancel_left this;simpa using this
   subst hr4;obtain⟨v4,b4,hlk4,hlo4⟩:=hT4.look;obtain⟨d4,hd4⟩:∃x,x=s.deliver+((pre++[e]).length:Int):=⟨_,rfl⟩
   have HLO4:=zh hlo4;have HT4:=zh hT4;have HB4:=zh hB4;have HC4:=zh hc4;have HL4:=zh hl4;have HJ4:=zh hJ4;have x0:w4.cell? ⟨bx,0,none⟩=some (.pointer (some ⟨g,0,none⟩)):=hB4.cell 0;have x1:w4.cell? ⟨g,41,none⟩=some (.int .u64 d4):=by rw[hd4];exact hT4.cdeliver
   have x2:=hT4.cs;have x3:(Instr.lookup 87 (.map (some sb)) (.int .u64 d4) true).run Tryz.prog w4.drew=.ok (.tuple #[v4,.bool b4]) w4.drew:=by rw[hd4];exact hlk4 _ rfl
   clear hlk4 hlo4 hT4 hB4 hc4 hl4 hJ4 hd4 e1c e1f e1b
   gi_wp2
   refine wpIn_wide.2 ?_;go_region
   gi_wp2
   go_roundw
   case rel=>exact⟨pre++[e],rest4,v4,b4,HL4.out,HC4.out,HT4.out.drew_,HB4.out.drew,HJ.out _ _ _ HJ4.out aa.refl.drew,rfl,rfl,HLO4.out⟩
   case measure=>rw[HM.out,HT4.out.drew_.st.size];omega
def jt (D:DataW Value) (left:Lit->Bool) (ks:List Int):Prop:=ks.Nodup/\∀x,x∈ks↔(Maps.has D (.int .u64 x)=true/\left (.int .u64 x)=false)
theorem jt.start (D:DataW Value):jt D (Maps.has D) []:=⟨List.nodup_nil,fun x=>by cases Maps.has D (.int .u64 x)<;>simp⟩
theorem xM (x y:Int):(Lit.int .u64 x).sameKey (.int .u64 y)=decide (x=y):=by
 show decide (IntKind.u64=IntKind.u64/\x=y)=_;simp
theorem jt.step {D:DataW Value} {left:Lit->Bool} {ks:List Int} (h:jt D left ks) {x:Int} {y:DataW Value} (hlk:left (.int .u64 x)=true) (hat:∀zd,D.atKey (.int .u64 x) zd=y):jt D (fun z=>left z && !z.sameKey (.int .u64 x)) (ks++[x]):=by
 have hhas:Maps.has D (.int .u64 x)=true:=Maps.has_true_of_atKey hat;have hnew:x ∉ ks:=fun hx=>by have:=((h.2 x).1 hx).2;rw[hlk]at this;cases this
 refine⟨List.nodup_append.2 ⟨h.1,by simp,fun a ha b hb=>by simp at hb;subst hb;exact fun e=>hnew (e ▸ ha)⟩,fun y=>?_⟩;dsimp only;rw[xM];by_cases hy:y=x
 ·subst hy;simp[hhas]
 ·simp[h.2 y,hy]
theorem qo {key:Value} {kl:Lit} (h:keyOf Tryz.prog 66 key=some kl):∃x:Int,key=.int .u64 x/\kl=.int .u64 x/\0<=x/\x < 18446744073709551616:=by
 have hu:Tryz.prog.underlying 66 = some (.int .u64):=Tryz.underlying66
 cases key<;>simp[keyOf,hu,mapKey]at h
 rename_i q a;obtain⟨⟨rfl,hw⟩,rfl⟩:=h;have e1:IntKind.u64.min=0:=rfl;have e2:IntKind.u64.max=18446744073709551615:=rfl;simp[Lit.wf,e1,e2]at hw
 exact⟨a,rfl,rfl,hw.1,by omega⟩
def ft (l:List SE):List Int:=l.map (·.v.ct)
theorem uh {l:List SE} (hr:bV l) {ks:List Int} (hnd:ks.Nodup) (hm:∀x,x∈ks↔Maps.has (DataW.map (l.map SE.kv)) (.int .u64 x)=true):ks.Perm (ft l):=by
 refine(List.perm_ext_iff_of_nodup hnd ?_).2 fun x=>?_
 ·show(l.map (·.v.ct)).Nodup
  exact List.pairwise_map.2 (hr.imp fun h e=>by omega)
 ·rw[hm x,iS];unfold ft;rw[List.mem_map];constructor
  ·intro h;obtain⟨e,he⟩:=Option.isSome_iff_exists.1 h;obtain⟨h1,h2⟩:=gY he
   exact⟨e,h1,h2⟩
  ·rintro ⟨e,h1,h2⟩
   cases hf:bn x l with
   | some _=>rfl
   | none=>exact absurd h2 (bF.1 hf e h1)
def vA (sb:Nat) (l:List SE) (B:Nat) (i:Nat×(Lit->Bool)×Nat) (pre:List Int) (W:World):Prop:=
 B<=i.1/\W.ranges Tryz.prog 66 RV sb i.1 l.length (.map (l.map SE.kv)) i.2.1 i.2.2/\jt (.map (l.map SE.kv)) i.2.1 pre
def zk (sb:Nat) (l:List SE) (bx:Nat) (W:World):Prop:=SM W sb l/\ae W bx 87 #[.map (some sb)]
def AY (B:Nat) (A A':World):Prop:=∃row,A.grownBy A' row/\∀r,row=some r->B<=r/\∃o:Obj,A.heap[r]? = some o/\o.isWalk=true
theorem tS (sb:Nat) (w:World):Calls Tryz.prog 71 #[.map (some sb)] w fun e w'=>e=.returned (.func (.func 104) #[] #[.pointer (some ⟨w.heap.size,0,none⟩)])/\w.alloc (.cells #[.map (some sb)] 87)=w':=by
 go_enter Tryz.func71,Tryz.ntmps71;go_wp2;go_ret
 exact⟨rfl,rfl⟩
theorem uH (sb:Nat) (l:List SE) (hr:bV l) (bx B n:Nat) (hn:1<=n) :
  nP Fence.wide n Tryz.prog 104 #[.pointer (some ⟨bx,0,none⟩)] (fun k:Int=>#[.int .u64 k]) (fun W=>zk sb l bx W/\B<=W.heap.size) (vA sb l B) (AY B) (fun ks=>ks.Perm (ft l)):=fun lp J W h0 hJ hY hJ0=>by
 have HJ:=zh hJ;have HY:=zh hY;have HRI:=zh hr;obtain⟨⟨hS,hB⟩,hBW⟩:=h0;have hown:W.ownsMap Tryz.prog 66 RV sb l.length (.map (l.map SE.kv)):=hS;have b0:W.cell? ⟨bx,0,none⟩=some (.map (some sb)):=hB.cell 0;have HBW:=zh hBW;clear hJ hY hr hS hB hBW;refine callsIn_of_wp Tryz.func104 rfl trivial ?_ rfl;simp only[Tryz.ntmps104,List.size_toArray,List.length_cons,List.length_nil,Nat.reduceAdd,Nat.reduceSub,Array.replicate_succ,Array.replicate_zero,List.push_toArray,List.append_toArray,List.nil_append,List.cons_append]
 gi_wp2_with (first
  | (gi_at_range;refine wpListIn_range_own _ rfl _ 87 rfl 66 41 uB Tryz.underlying87 RV sb l.length _ rfl hown ?_;intro w0 hrg0 hg0 hs0)
  | gi_in)
 gi_loopw [3] (fun _ wr=>∃(left:Lit->Bool) (cnt:Nat) (ks:List Int),wr.ranges Tryz.prog 66 RV sb W.heap.size l.length (.map (l.map SE.kv)) left cnt/\jt (.map (l.map SE.kv)) left ks/\J ks wr)
  (fun _ wr=>wr.rangeLeft sb W.heap.size)
 case atStart=>exact⟨_,_,[],hrg0,jt.start _,HJ.out _ _ _ hJ0 ⟨none,hg0,fun r e=>by cases e⟩⟩
 case round=>
  obtain⟨left,cnt,ks,hrg,hC,hJs⟩:=hrel
  gi_wp2_with (first
   | (gi_at_next;refine wpListIn_next_ranges _ rfl _ rfl 66 uB RV (fun x:Int=>.int .u64 x) id (fun key kl hk=>by obtain⟨x,hx,_⟩:=qo hk;exact⟨x,hx⟩) (fun v _ _=>⟨v,rfl⟩) sb W.heap.size l.length _ _ _ rfl hrg ?_ ?_)
   | gi_in)
  ·intro hc0 hl0
   gi_wp2
   go_end0;refine⟨⟨_,rfl⟩,(W.heap.size,left,cnt),ks,uh HRI.out hC.1 (fun x=>?_),hJs,⟨HBW.out,hrg,hC⟩⟩;rw[hC.2 x,hl0];simp
  ·intro x c kl yd yp w2 cnt2 hkey hlk hv hat hrg2 hlt hg2 hs2 hen;obtain⟨x',ex,rfl,_⟩:=qo hkey;obtain rfl:x=x':=by injection ex
   have hJ2:J ks w2:=HJ.out ks wr w2 hJs ⟨some W.heap.size,hg2,fun r e=>by cases e;exact⟨HBW.out,hrg.iter_walk⟩⟩;obtain⟨fn,tmps,assign,body,hy,hR⟩:=HY.out (W.heap.size,_,cnt2) ks x w2 hJ2 ⟨HBW.out,hrg2,hC.step hlk hat⟩;have HRr:=zh hR;have HLT:=zh hlt;have HLE:=zh hrg.left_eq;clear hs2 hR hlt hrg hC hJs hJ2 hrg2 hg2
   gi_wp2
   refine HRr.out.mono ?_;rintro e W3 ⟨rfl,hJ3,_,hrg3,hC3⟩;have HRG3:=zh hrg3;have HC3:=zh hC3;clear hrg3 hC3
   gi_wp2
   go_roundw
   case rel=>exact⟨_,cnt2,ks++[x],HRG3.out,HC3.out,hJ3⟩
   case measure=>rw[HRG3.out.left_eq,HLE.out];exact HLT.out
theorem tT (sb:Nat) (l:List SE) (B:Nat) (i:Nat×(Lit->Bool)×Nat) (N:Nat):cX N (vA sb l B i):=fun s A A' row ⟨h1,h2,h3⟩ hg hr=>by
 refine⟨h1,h2.kept hg (fun e=>?_) (fun e=>?_),h3⟩
 ·obtain⟨_,o,ho,_,hw⟩:=hr sb e.symm;obtain⟨es,c,_,_,_,hb,_⟩:=h2;rw[hb]at ho;cases ho;cases hw
 ·obtain⟨_,o,ho,_,hw⟩:=hr i.1 e.symm;obtain⟨es,c,since,seen,c0,_,_,_,_,hb,_⟩:=h2;rw[hb]at ho;cases ho;cases hw
theorem pJ {sb:Nat} {l:List SE} {B:Nat} {i:Nat×(Lit->Bool)×Nat} {ks:List Int} {A A':World} (h:vA sb l B i ks A) (hk:KeepsOthers A A'):vA sb l B i ks A':=
 ⟨h.1,h.2.1.of_walks ⟨hk.size,fun k o ho hw=>hk.same k o ho (by cases o<;>first | rfl | cases hw)⟩,h.2.2⟩
theorem Tryz.infoU64:(Tryz.prog.info? 66).map (fun i=>(i.zero,i.size,i.bytes))=some (some (.int .u64 0),1,8):=by kernel_rfl
theorem mM:∀(l m:List Int),l.Nodup->(∀x,x∈l->x∈m)->l.length<=m.length
 | [],_,_,_=>Nat.zero_le _
 | x :: r,m,h,hs=>by
  have h1:=List.nodup_cons.1 h;have hx:=hs x (by simp);have:=mM r (m.erase x) h1.2 (fun y hy=>(List.mem_erase_of_ne (fun e:y=x=>h1.1 (by rw[<-e];exact hy))).2 (hs y (by simp[hy])));rw[List.length_erase_of_mem hx]at this;have hp:=List.length_pos_of_mem hx;rw[List.length_cons];omega
theorem wm {sb:Nat} {l:List SE} {B:Nat} {i:Nat×(Lit->Bool)×Nat} {ks:List Int} {A:World} (h:vA sb l B i ks A):ks.length<=l.length:=by
 have:=mM ks (ft l) h.2.2.1 (fun x hx=>by
  have:=((h.2.2.2 x).1 hx).1;rw[iS]at this;obtain⟨e,he⟩:=Option.isSome_iff_exists.1 this;obtain⟨h1,h2⟩:=gY he
  exact List.mem_map.2 ⟨e,h1,h2⟩)
 rwa [show(ft l).length=l.length from List.length_map _]at this
def zn (w0:World) (N M gb:Nat) (ks:List Int) (W:World):Prop:=(∃v,Boxed W gb 141 v/\W.ownsRow N 66 1 v ks.length (ks.map (Value.int .u64))/\True)/\Below M w0 W
theorem iY (w0:World) (N M gb B:Nat) (hN:M<=w0.heap.size) (hB:M<=B):OwnFrom B (zn w0 N M gb):=
 OwnFrom.and (Own.from (holdsRow_own N gb 141 66 1 (fun s:List Int=>s.length) (fun s=>s.map (Value.int .u64)) (fun _ _=>True)) _) (ownFrom_below hN hB)
theorem ou (sb:Nat) (l:List SE) (bx:Nat) (w:World) (hS:SM w sb l) (hB:ae w bx 87 #[.map (some sb)]) (hr:bV l) (hl:l.length<=100000) :
  Calls Tryz.prog 131 #[.slice none 0 0,.func (.func 104) #[] #[.pointer (some ⟨bx,0,none⟩)]] w fun e w'=>∃(ks:List Int) (v:Value),e=.returned v/\ks.Perm (ft l)/\w'.ownsRow w.heap.size 66 1 v ks.length (ks.map (Value.int .u64))/\Below w.heap.size w w':=by
 have HS:=zh hS;have HB:=zh hB;have HSQ:=zh (fun B=>uH sb l hr bx B 8 (by decide));have HLL:=zh hl;obtain⟨i0,hi0,hz0,hz1,hz2⟩:=info_parts Tryz.infoU64;clear hS hB hr hl;refine(callsIn_wide (n:=9)).1 ?_;refine callsIn_of_wp_marks Tryz.func131 rfl trivial ?_ rfl;simp only[Tryz.ntmps131,List.size_toArray,List.length_cons,List.length_nil,Nat.reduceAdd,Nat.reduceSub,Array.replicate_succ,Array.replicate_zero,List.push_toArray,List.append_toArray,List.nil_append,List.cons_append]
 gi_wp2
 obtain⟨gb,hgb⟩:=af w.heap.size
 obtain⟨W1,hW1⟩:=af (w.alloc (.cells #[.slice none 0 0] 141))
 have hz1':W1.heap.size=gb+1:=by rw[hW1,hgb];simp
 have HBX:Hid (Boxed W1 gb 141 (.slice none 0 0)):=zh (by rw[hW1,hgb];exact Boxed.new w 141 (.slice none 0 0));have HB1:Hid (Below w.heap.size w W1):=zh (by rw[hW1];exact(Below.refl _ w).alloc ay _);have HK1:Hid (zk sb l bx W1):=zh ⟨HS.out.below HB1.out HS.out.lt,HB.out.below HB1.out HB.out.lt⟩;have HGB:=zh hgb;rw[<-hW1,<-hgb];clear hW1 hgb;refine d6 rfl (by decide) (gf:=104) (lb:=#[.pointer (some ⟨bx,0,none⟩)]) rfl trivial (enters_of Tryz.func104 (by kernel_rfl) rfl)
  (HSQ.out (gb+1)) (fun _=>rfl) (fun A A' k o ⟨row,hg,hr⟩ hk ho _ hw=>(hg.block k (Array.getElem?_eq_some_iff.1 ho).1 (fun e=>by
   obtain⟨_,o',ho',hw'⟩:=hr k e.symm;rw[ho]at ho';cases ho';rw[hw]at hw';cases hw')).trans ho)
  (zn W1 (gb+1) gb gb) (fun s A A' row hs hg hr=>iY W1 (gb+1) gb gb _ (by omega) (by omega) s A A' row hs hg (fun r e=>⟨(hr r e).1,let ⟨o,h1,h2,_⟩:=(hr r e).2;⟨o,h1,h2⟩⟩))
  (fun pre A A' h ⟨row,hg,hr⟩=>iY W1 (gb+1) gb gb (gb+1) (by omega) (by omega) pre A A' row h hg (fun r e=>⟨(hr r e).1,let ⟨o,h1,h2⟩:=(hr r e).2;⟨o,h1,Obj.not_cells_of_walk h2⟩⟩))
  (fun i=>tT sb l (gb+1) i _) ⟨⟨_,HBX.out,World.ownsRow_nil _ _ _ _,trivial⟩,Below.refl _ _⟩
  (fun s A A' row ⟨⟨h1,h2⟩,h3⟩ hg hr=>⟨⟨?r1,?r2⟩,a9 h3 hg.size⟩) ⟨HK1.out,by omega⟩ ?a1 ?assign ?body ?done
 case r1=>exact h1.keepF (F:=fun k=>row=some k) ⟨hg.os,hg.tape,hg.output,hg.size,fun k hk hn=>hg.block k hk (fun e=>hn e.symm)⟩ (fun e=>by
  obtain⟨_,o,ho,_,hw⟩:=hr sb e;obtain⟨es,c,hb,_⟩:=h1;rw[hb]at ho;cases ho;cases hw)
 case r2=>exact(hg.block bx h2.lt (fun e=>by
  obtain⟨_,o,ho,hc,_⟩:=hr bx e.symm;rw[show A.heap[bx]? = _ from h2]at ho;cases ho;cases hc)).trans h2
 case assign=>
  intro lp x W K hK
  gi_wp2
  exact hK
 case body=>
  rintro lp i pre x W ⟨⟨v,hbx,hown,_⟩,hBW⟩ hKR;have hc:=hbx.cell;have hbs:=hBW.size;have hpl:=wm hKR;rw[List.length_append]at hpl;have hll:=HLL.out;have HKR:=zh hKR;have hpl2:pre.length < 100000:=by simp at hpl;omega
  clear hKR hpl hll
  gi_wp2_with (gi_at_builtin;refine wpListIn_append_own _ rfl _ _ 141 rfl (gb+1) 66 i0 (.int .u64 0) 1 8 Tryz.underlying141 hi0 hz0 hz1 hz2 rfl (by decide) _ _ _ rfl (hown.alloc _) ⟨W.heap.size,0,none⟩ 1 1 [.int .u64 x] rfl rfl (cell_one_new _ _ _) (by simp[Value.oneCell']) (by unfold maxLen;omega) (by omega) (by simp;omega) ?_;intro v' w1 hown' hgrow _;obtain⟨g',cap',rfl⟩:=ownsRow_succ hown';obtain⟨hv1,hv2,hr2,hk2,hb2⟩:=hbx.appended (by decide) (dt hown (by omega)) (by omega:gb<=W.heap.size) ay (dt hown' (by omega)) hgrow;have hc1:=hv1.cell;have hf1:=hv1.frozen)
  have hown2:(w1.setCell ⟨gb,0,none⟩ (.slice (some ⟨g',0,none⟩) (pre.length+1) cap')).ownsRow (gb+1) 66 1 (.slice (some ⟨g',0,none⟩) (pre.length+1) cap') (pre.length+1) (pre.map (Value.int .u64)++[.int .u64 x]):=
   hown'.kept (grownBy_setCell' w1 gb _) (.inr (hv1.not_row (by decide) hown').symm)
  exact⟨hk2.from _,⟨⟨_,hv2,by simpa using hown2,trivial⟩,hBW.trans hb2⟩,pJ HKR.out hk2⟩
 case done=>
  rintro D i xs W hD hperm hI hKR hK;obtain⟨⟨v2,hbx2,hown2,_⟩,hBW2⟩:=(iY W1 (gb+1) gb gb W1.heap.size (by omega) (by omega)).putObj (.deferred none) hI hD hK rfl;obtain⟨⟨v,hbx,hown,_⟩,hBW⟩:=hI;have hne:gb ≠ D:=by omega
  have hvv:v2=v:=by
   have h1:W.heap[gb]? = some (.cells #[v2] 141 (0,0)):=(World.putObj_heap_other hne).symm.trans hbx2;rw[show W.heap[gb]? = _ from hbx]at h1;injection h1 with h1
   injection h1 with h1
   simpa using h1.symm
  subst hvv;have HOW2:=zh hown2;have HBW2:=zh hBW2;clear hown2 hBW2 hbx2;have hc:=hbx.cell;have HPM:=zh hperm;have HOW:=zh hown;have HBW:=zh hBW;have HDK:=zh hK;clear hperm hown hBW hKR hK
  gi_wp2
  refine⟨by simp,.inl ⟨_,_,rfl,run_takeDeferred HDK.out,?_⟩⟩;refine⟨v2,by simp[results,Tryz.results131,go_sem],xs,v2,rfl,HPM.out,dt HOW2.out (by have:=HGB.out;omega),HB1.out.trans (HBW2.out.mono (by have:=HGB.out;omega))⟩
end Go.Proofs.YtbfpdnnphdagjaaGreat

import Derived.Test.YtiiojpnckbglcaaGreatMTBs
import Derived.Test.YtiiojpnckbglcaaGreatMZAs
import Derived.Test.YtiiojpnckbglcaaGreatMVSs
import Derived.Maps.OwnSet
import Derived.BigRegion
import Derived.WalkKit
import Derived.OwnWalkIn
import Derived.TacticsInMore
import Derived.LoopNIn
import Derived.LoopIn
import Derived.RangeFuncCalls
import Derived.Sort.MapsRangeIn
import Derived.RangeFuncSeq
import Derived.RangeFuncBox
import Derived.RangeFuncFrom
set_option maxRecDepth 100000
set_option maxHeartbeats 3200000
set_option linter.unusedVariables false
set_option linter.unusedSimpArgs false
namespace Go.Proofs.YtiiojpnckbglcaaGreat
open Go.RowKit
structure SV where
 ct:Int
 n:Nat
 z:Nat->Int
structure SE where
 v:SV
 A:Option Addr
 c:Nat
def SE.val (e:SE):Value:=.slice e.A e.v.n e.c
def RV (v:Value):Option (DataW Value×List MemPlace):=some (.held v,[])
def SE.kv (e:SE):Lit×DataW Value:=(.int .u64 e.v.ct,.held e.val)
theorem vP:Maps.Keyed Tryz.prog 76:=Maps.int_keyed Tryz.underlying76
theorem qT {f:Int} (h0:0<=f) (h1:f < 18446744073709551616):keyOf Tryz.prog 76 (.int .u64 f)=some (.int .u64 f):=Maps.keyOf_int_mk Tryz.underlying76 (by
 have e1:IntKind.u64.min=0:=rfl;have e2:IntKind.u64.max=18446744073709551615:=rfl;simp[Lit.wf,e1,e2];omega)
def bQ (l:List SE):Prop:=l.Pairwise fun a b=>a.v.ct < b.v.ct
def SM (w:World) (m:Nat) (l:List SE):Prop:=w.ownsMap Tryz.prog 76 RV m l.length (.map (l.map SE.kv))
theorem rz {w:World} {P:Program} {k:TypeId} {R:Value->Option (DataW Value×List MemPlace)} {b n:Nat} {es:List (Lit×DataW Value)} (h:w.ownsMap P k R b n (.map es)):w.ownsMap P k R b es.length (.map es):=by
 obtain⟨e,c,h1,h2,h3,h4⟩:=h;refine⟨e,c,h1,h2,?_,h4⟩;have:es=(e.toList.map (WideElems.rg P k R)).foldr DataW.insert []:=by injection h4
 rw[this,length_sorted];simp
theorem SM.of {w:World} {m n:Nat} {l:List SE} (h:w.ownsMap Tryz.prog 76 RV m n (.map (l.map SE.kv))):SM w m l:=by
 have:=rz h
 rwa [List.length_map]at this
theorem SM.lt {w:World} {m:Nat} {l:List SE} (h:SM w m l):m < w.heap.size:=World.ownsMap.lt h
theorem SM.keepF {F:Nat->Prop} {w w':World} {m:Nat} {l:List SE} (h:SM w m l) (hk:aa F w w') (hF:¬F m):SM w' m l:=by
 have hl:=h.lt;obtain⟨e,c,h1,h2⟩:=h
 exact⟨e,c,(hk.block m hl hF).trans h1,h2⟩
theorem SM.below {w w':World} {B m:Nat} {l:List SE} (h:SM w m l) (hb:Below B w w') (hm:m < B):SM w' m l:=by
 obtain⟨e,c,h1,h2⟩:=h
 exact⟨e,c,(hb.block m hm).trans h1,h2⟩
theorem SM.made (w:World):SM (w.alloc (.map #[] 0)) w.heap.size []:=World.ownsMap_made w _ _ _
def cW (f:Int) (l:List SE):Option SE:=l.find? fun e=>decide (e.v.ct=f)
def vZ (f:Int) (l:List SE):List SE:=l.filter fun e=>!decide (e.v.ct=f)
def iI (x:SE):List SE->List SE
 | []=>[x]
 | y :: r=>if x.v.ct < y.v.ct then x :: y :: r else y :: iI x r
theorem kD (e:SE) (f:Int):(SE.kv e).1.sameKey (.int .u64 f)=decide (e.v.ct=f):=by
 show decide (IntKind.u64=IntKind.u64/\e.v.ct=f)=_;simp
theorem km (f:Int) (z:DataW Value):∀l:List SE,(DataW.map (l.map SE.kv)).atKey (.int .u64 f) z=(match cW f l with | some e=>.held e.val | none=>z)
 | []=>rfl
 | e :: r=>by
  have ih:=km f z r;unfold DataW.atKey cW at ih ⊢;simp only[List.map_cons,List.find?_cons,kD];by_cases h:e.v.ct=f
  ·simp[h,SE.kv]
  ·simp only[h,decide_false]
   exact ih
theorem j9 (f:Int):∀l:List SE,Maps.has (DataW.map (l.map SE.kv)) (.int .u64 f)=(cW f l).isSome
 | []=>rfl
 | e :: r=>by
  have ih:=j9 f r;rw[Maps.has_eq]at ih ⊢;unfold cW at ih ⊢;simp only[List.map_cons,List.any_cons,List.find?_cons,kD];by_cases h:e.v.ct=f
  ·simp[h]
  ·simp only[h,decide_false,Bool.false_or]
   exact ih
theorem uv (f:Int) (l:List SE):(DataW.map (l.map SE.kv)).del (.int .u64 f)=.map ((vZ f l).map SE.kv):=by
 unfold DataW.del vZ;simp only;rw[List.filter_map];congr 2;apply List.filter_congr;intro e _;show(!(SE.kv e).1.sameKey _)=_;rw[kD]
theorem ol (x:SE):∀l:List SE,DataW.insert (SE.kv x) (l.map SE.kv)=(iI x l).map SE.kv
 | []=>rfl
 | y :: r=>by
  have hb:(SE.kv x).1.before (SE.kv y).1=decide (x.v.ct < y.v.ct):=rfl;unfold iI;rw[List.map_cons];unfold DataW.insert;rw[hb];by_cases h:x.v.ct < y.v.ct
  ·simp[h]
  ·simp only[h,decide_false];rw[ol x r];simp
theorem bn {f:Int} {l:List SE}:cW f l=none↔∀e,e∈l->e.v.ct ≠ f:=by
 unfold cW;simp
theorem gG {f:Int} {l:List SE} {e:SE} (h:cW f l=some e):e∈l/\e.v.ct=f:=by
 unfold cW at h
 exact⟨List.mem_of_find?_eq_some h,by simpa using List.find?_some h⟩
theorem rP {f:Int} {l:List SE} (h:cW f l=none):vZ f l=l:=by
 unfold vZ;rw[List.filter_eq_self];intro e he;simp[bn.1 h e he]
theorem tp (x:SE) (l:List SE) (h:cW x.v.ct l=none):(DataW.map (l.map SE.kv)).put (.int .u64 x.v.ct) (.held x.val)=.map ((iI x l).map SE.kv):=by
 have e:=uv x.v.ct l;rw[rP h]at e;unfold DataW.put;unfold DataW.del at e;simp only at e ⊢;injection e with e
 rw[e];congr 1
 exact ol x l
theorem iC (x:SE):∀(l:List SE) (e:SE),e∈iI x l↔e=x\/e∈l
 | [],e=>by simp[iI]
 | y :: r,e=>by
  unfold iI
  split
  ·simp
  ·simp only[List.mem_cons,iC x r e]
   exact⟨fun h=>by rcases h with h | h | h<;>simp[h],fun h=>by rcases h with h | h | h<;>simp[h]⟩
theorem ja {x:SE}:∀{l:List SE},bQ l->cW x.v.ct l=none->bQ (iI x l)
 | [],_,_=>by simp[iI,bQ]
 | y :: r,h,hn=>by
  have h1:(∀e,e∈r->y.v.ct < e.v.ct)/\bQ r:=List.pairwise_cons.1 h;have hy:y.v.ct ≠ x.v.ct:=bn.1 hn y (by simp);have hr:cW x.v.ct r=none:=bn.2 fun e he=>bn.1 hn e (by simp[he]);unfold iI
  split
  ·rename_i hlt;refine List.pairwise_cons.2 ⟨fun e he=>?_,h⟩;rcases List.mem_cons.1 he with rfl | he
   ·exact hlt
   ·have:=h1.1 e he;omega
  ·rename_i hlt;refine List.pairwise_cons.2 ⟨fun e he=>?_,ja h1.2 hr⟩;rcases (iC x r e).1 he with rfl | he
   ·omega
   ·exact h1.1 e he
theorem vd {w:World} {m:Nat} {l:List SE} (h:SM w m l) {f:Int} (h0:0<=f) (h1:f < 18446744073709551616) {e:SE} (he:cW f l=some e) :
  (Instr.lookup 117 (.map (some m)) (.int .u64 f) false).run Tryz.prog w=.ok e.val w:=by
 have hz:(zeroValue 44).run Tryz.prog w=.ok (.slice none 0 0) w:=by kernel_rfl
 obtain⟨v,ps,hrun,hv⟩:=World.ownsMap.lookup h vP Tryz.underlying117 hz (zd:=.held (.slice none 0 0)) (zp:=[]) rfl (qT h0 h1);rw[km,he]at hv;unfold RV at hv;simp only[Option.some.injEq,Prod.mk.injEq,DataW.held.injEq]at hv;rw[hrun,hv.1]
theorem aa.of_turned {w w':World} {b:Nat} (h:w.mapTurned w' b):aa (fun k=>k=b) w w':=aa.of_row h.grown rfl
theorem th {w:World} {m:Nat} {l:List SE} (h:SM w m l) (x:SE) (h0:0<=x.v.ct) (h1:x.v.ct < 18446744073709551616) (hn:cW x.v.ct l=none) (hl:l.length < maxLen) :
  ∃w',(Instr.mapUpdate 117 (.map (some m)) (.int .u64 x.v.ct) x.val).run Tryz.prog w=.ok () w'/\SM w' m (iI x l)/\aa (fun k=>k=m) w w':=by
 obtain⟨w',hrun,h2,h3⟩:=World.ownsMap.store h vP Tryz.underlying117 hl (qT h0 h1) (val:=x.val) (d:=.held x.val) (ps:=[]) rfl;rw[tp x l hn]at h2
 exact⟨w',hrun,SM.of h2,aa.of_turned h3⟩
def tg (now d nx:Int) (sb:Nat) (run:Bool) (lim ex:Int) (ub eb:Nat) (dup:Int):Array Value:=#[.bool true,.int .i64 now,.int .u64 d,.int .u64 nx,.map (some sb),.bool run,.int .u64 lim,.int .i64 ex,.map (some ub),.pointer (some ⟨eb,0,none⟩),.slice none 0 0,.int .i64 dup]
def mf (C:Array Value) (now d nx:Int) (sb:Nat) (run:Bool) (lim ex:Int) (ub eb:Nat) (dup:Int):Array Value:=C++tg now d nx sb run lim ex ub eb dup
section
variable {C:Array Value} {now d nx:Int} {sb:Nat} {run:Bool} {lim ex:Int} {ub eb:Nat} {dup:Int}
theorem uG (hC:C.size=39) {j:Nat} (hj:j < 39):(mf C now d nx sb run lim ex ub eb dup)[j]? = C[j]?:=by
 unfold mf;rw[Array.getElem?_append_left (by omega)]
theorem rC (hC:C.size=39) (j:Nat):(mf C now d nx sb run lim ex ub eb dup)[39+j]? = (tg now d nx sb run lim ex ub eb dup)[j]?:=by
 unfold mf;rw[Array.getElem?_append_right (by omega),hC,show 39+j-39=j by omega]
end
structure RS where
 C:aZ
 now:Int
 deliver:Int
 next:Int
 L:List SV
 run:Bool
 limit:Int
 expiry:Int
 used:List (Array Value)
 exp:Obj
 dup:Int
structure RS.Ok (s:RS):Prop where
 now:0<=s.now/\s.now < 1073741824
 deliver:0<=s.deliver/\s.deliver<=s.next
 next:s.next<=4294967296
 limit:0<=s.limit/\s.limit<=s.next
 expiry:0<=s.expiry/\s.expiry<=2147483648
 dup:0<=s.dup/\s.dup < 4611686018427387904
def xJ (o:Obj):Prop:=∃L,o=.cells L 163 (0,0)/\L=Tryz.zeroCells163.setIfInBounds 0 (.bool true)
structure eI (w:World) (g:Nat) (s:RS) (W R:Nat->Prop) (sb:Nat) (l:List SE) (ub eb:Nat):Prop where
 blk:ae w g 120 (mf s.C.arr s.now s.deliver s.next sb s.run s.limit s.expiry ub eb s.dup)
 lv:l.map (·.v)=s.L
 st:SM w sb l
 ris:bQ l
 rng:∀e,e∈l->s.deliver<=e.v.ct/\e.v.ct < s.next
 u:UK w ub s.used
 x:w.heap[eb]? = some s.exp
 pk:∀e,e∈l->ci w R e.A e.v.n e.c e.v.z
 ok:s.Ok
 wg:W g
 ws:W sb
 wu:W ub
 wx:W eb
 xg:eb ≠ g
 xs:eb ≠ sb
 xu:eb ≠ ub
 su:sb ≠ ub
 dis:∀k,W k->R k->False
 win:∀k,W k->k < w.heap.size
 rin:∀k,R k->k < w.heap.size
 xo:s.C.cm=false->xJ s.exp
section
variable {w w':World} {g:Nat} {s:RS} {W R R' F:Nat->Prop} {sb:Nat} {l:List SE} {ub eb:Nat}
theorem eI.gs (h:eI w g s W R sb l ub eb):g ≠ sb:=by
 obtain⟨es,c,h1,_⟩:=h.st
 exact mv h.blk h1
theorem eI.keepF (h:eI w g s W R sb l ub eb) (hk:aa F w w') (hF:∀k,F k->¬W k/\¬R k):eI w' g s W R sb l ub eb:=
 ⟨hk.blk h.blk (fun hf=>(hF _ hf).1 h.wg),h.lv,h.st.keepF hk (fun hf=>(hF _ hf).1 h.ws),h.ris,h.rng,h.u.keep (hk.block _ h.u.lt (fun hf=>(hF _ hf).1 h.wu)),
  (hk.block _ (h.win _ h.wx) (fun hf=>(hF _ hf).1 h.wx)).trans h.x,fun e he=>(h.pk e he).keep hk (fun k hf=>(hF k hf).2),h.ok,h.wg,h.ws,h.wu,h.wx,h.xg,h.xs,h.xu,h.su,h.dis,
  fun k hk'=>bg (h.win k hk') hk.size,fun k hk'=>bg (h.rin k hk') hk.size,h.xo⟩
theorem eI.below (h:eI w g s W R sb l ub eb) (hb:Below w.heap.size w w'):eI w' g s W R sb l ub eb:=
 h.keepF (F:=fun _=>False) (aa.of_below hb) (fun _ hf=>hf.elim)
theorem eI.hi (h:eI w g s W R sb l ub eb) (j:Nat):w.cell? ⟨g,39+j,none⟩=(tg s.now s.deliver s.next sb s.run s.limit s.expiry ub eb s.dup)[j]?:=(h.blk.cell (39+j)).trans (rC s.C.arr_size j)
theorem eI.made (h:eI w g s W R sb l ub eb):w.cell? ⟨g,39,none⟩=some (.bool true):=h.hi 0
theorem eI.cdeliver (h:eI w g s W R sb l ub eb):w.cell? ⟨g,41,none⟩=some (.int .u64 s.deliver):=h.hi 2
theorem eI.cnext (h:eI w g s W R sb l ub eb):w.cell? ⟨g,42,none⟩=some (.int .u64 s.next):=h.hi 3
theorem eI.cs (h:eI w g s W R sb l ub eb):w.cell? ⟨g,43,none⟩=some (.map (some sb)):=h.hi 4
theorem eI.cC (h:eI w g s W R sb l ub eb) {j:Nat} (hj:j < 39):w.cell? ⟨g,j,none⟩=some (s.C.cell j):=(h.blk.cell j).trans ((uG s.C.arr_size hj).trans (s.C.arr_at hj))
theorem uy (w:World) (g j:Nat) (v:Value):aa (fun k=>k=g) w (w.setCell ⟨g,j,none⟩ v):=(aa.refl (F:=fun k=>k=g)).setCell (p:=⟨g,j,none⟩) rfl _
theorem eI.moreR (h:eI w g s W R sb l ub eb) (hR:∀k,R k->R' k) (hd:∀k,W k->R' k->False) (hr:∀k,R' k->k < w.heap.size):eI w g s W R' sb l ub eb:=
 ⟨h.blk,h.lv,h.st,h.ris,h.rng,h.u,h.x,fun e he=>(h.pk e he).mono hR,h.ok,h.wg,h.ws,h.wu,h.wx,h.xg,h.xs,h.xu,h.su,hd,h.win,hr,h.xo⟩
theorem eI.setMap {s':RS} {l':List SE} (h:eI w g s W R sb l ub eb) (hk:aa (fun k=>k=sb) w w') (hm:SM w' sb l') (hr:bQ l') (hs:s'={ s with L:=l'.map (·.v) }) (hg:∀e,e∈l'->s.deliver<=e.v.ct/\e.v.ct < s.next)
  (hp:∀e,e∈l'->ci w R e.A e.v.n e.c e.v.z):eI w' g s' W R sb l' ub eb:=by
 subst hs
 exact⟨hk.blk h.blk (fun e=>h.gs e),rfl,hm,hr,hg,h.u.keep (hk.block _ h.u.lt (fun e=>h.su e.symm)),(hk.block _ (h.win _ h.wx) h.xs).trans h.x,
  fun e he=>(hp e he).keep hk (fun k e2 hr=>h.dis k (e2 ▸ h.ws) hr),⟨h.ok.now,h.ok.deliver,h.ok.next,h.ok.limit,h.ok.expiry,h.ok.dup⟩,h.wg,h.ws,h.wu,h.wx,h.xg,h.xs,h.xu,h.su,h.dis,fun k hw=>bg (h.win k hw) hk.size,fun k hw=>bg (h.rin k hw) hk.size,h.xo⟩
end
theorem jY:∀{l:List SE} {a b:Int},bQ l->(∀e,e∈l->a<=e.v.ct/\e.v.ct < b)->a<=b->(l.length:Int)<=b-a
 | [],a,b,_,_,h=>by simp;omega
 | e :: r,a,b,h,hr,hab=>by
  have h1:(∀x,x∈r->e.v.ct < x.v.ct)/\bQ r:=List.pairwise_cons.1 h;have he:=hr e (by simp);have:=jY (l:=r) (a:=e.v.ct+1) (b:=b) h1.2 (fun x hx=>⟨by have:=h1.1 x hx;omega,(hr x (by simp[hx])).2⟩) (by omega);rw[List.length_cons];omega
theorem eI.few {w:World} {g:Nat} {s:RS} {W R:Nat->Prop} {sb:Nat} {l:List SE} {ub eb:Nat} (h:eI w g s W R sb l ub eb):l.length < maxLen:=by
 have h1:=jY h.ris h.rng h.ok.deliver.2;have h2:=h.ok.next;have h3:=h.ok.deliver.1;unfold maxLen;omega
def stored (L:List SV) (ct:Int):Bool:=L.any fun e=>decide (e.ct=ct)
def rD (x:SV):List SV->List SV
 | []=>[x]
 | y :: r=>if x.ct < y.ct then x :: y :: r else y :: rD x r
theorem oD (x:SE):∀l:List SE,(iI x l).map (·.v)=rD x.v (l.map (·.v))
 | []=>rfl
 | y :: r=>by
  unfold iI;rw[List.map_cons];unfold rD
  split
  ·rfl
  ·rw[List.map_cons,oD x r]
end Go.Proofs.YtiiojpnckbglcaaGreat
namespace Go.Proofs.YtiiojpnckbglcaaGreat
open Go.RowKit
attribute [local go_sem ↓] Go.wp_at_zero Go.wp_at_succ
theorem lz (g:Nat) (w:World) (h:w.cell? ⟨g,39,none⟩=some (.bool true)):Calls Tryz.prog 63 #[.pointer (some ⟨g,0,none⟩)] w fun e w'=>e=.returned (.bool false)/\w=w':=by
 go_enter Tryz.func63,Tryz.ntmps63;go_wp2;go_ret
 exact⟨rfl,rfl⟩
end Go.Proofs.YtiiojpnckbglcaaGreat
namespace Go.Proofs.YtiiojpnckbglcaaGreat
open Go.RowKit
def qI {α ι:Type} (F:Fence) (n:Nat) (P:Program) (g:Nat) (lb:Array Value) (encs:α->Array Value) (R0:World->Prop) (Rk:ι->List α->World->Prop) (St:World->World->Prop) (S:List α->Prop):Prop:=
 ∀(l:Nat) (J:List α->World->Prop) (W:World),R0 W->(∀pre A B,J pre A->St A B->J pre B)->
  (∀i pre x W1,J pre W1->Rk i (pre++[x]) W1->YieldAt F (n-1) P l (encs x) W1 fun e W'=>e=.returned (.bool true)/\J (pre++[x]) W'/\Rk i (pre++[x]) W')->
  J [] W->
  CallsIn F n P g (#[.func (.yield l) #[] #[]]++lb) W fun e W'=>(∃v,e=.returned v)/\∃i xs,S xs/\J xs W'/\Rk i xs W'
def dq {β:Type} (B:Nat) (I:β->World->Prop):Prop:=
 ∀s W W' row,I s W->W.grownBy W' row->(∀r,row=some r->B<=r/\∃o:Obj,W.heap[r]? = some o/\o.isCells=false/\o.isWalk=false)->I s W'
theorem dq.putObj {β:Type} {B:Nat} {I:β->World->Prop} (h:dq B I) {s:β} {W:World} {l:Nat} {o:Obj} (o':Obj) (hs:I s W) (hB:B<=l) (hl:W.heap[l]? = some o) (ho:o.isCells=false) (hw:o.isWalk=false):I s (W.putObj l o'):=
 h s W _ (some l) hs (grownBy_putObj' W l o') (fun r e=>by cases e;exact⟨hB,o,hl,ho,hw⟩)
theorem dq.alloc {β:Type} {B:Nat} {I:β->World->Prop} (h:dq B I) {s:β} {W:World} (o:Obj) (hs:I s W):I s (W.alloc o):=
 h s W _ none hs (World.grownBy_alloc W o none) (fun r e=>by cases e)
def um (B:Nat) (W:World) (G:World->Prop):Exit->Act->World->Prop
 | .normal,_,W'=>KeepsFrom B W W'/\G W'
 | _,_,_=>False
theorem gx {F:Fence} {n:Nat} {P:Program} {α ι:Type} {g:Operand} {ps:Array Tmp} {assign body:Code} {Q:Exit->Act->World->Prop} {a:Act} {w:World}
  (hro:F.round=none) (h1:1<=n) {gf:Nat} {lb:Array Value} (hg:a.eval g=.func (.func gf) #[] lb) (hFg:F.fn gf) (eg:∀args w,(callFunc gf args).run P w=.ok (.enter gf args) w)
  {encs:α->Array Value} {R0:World->Prop} {Rk:ι->List α->World->Prop} {St:World->World->Prop} {S:List α->Prop} (hseq:qI F (n-1) P gf lb encs R0 Rk St S) (hps:∀x,(encs x).size=ps.size)
  (hSt:∀A B k o,St A B->w.heap.size<=k->A.heap[k]? = some o->o.isCells=false->o.isWalk=false->B.heap[k]? = some o) (I:List α->World->Prop) (hI:dq w.heap.size I) (hIF:∀pre A B,I pre A->St A B->I pre B) (hR:∀i,dq w.heap.size (Rk i)) (h0:I [] w) (hR0:dq w.heap.size (fun(_:Unit)=>R0)) (hR1:R0 w) (a₁:α->Act)
  (hassign:∀(l:Nat) (x:α) (W:World) (K:Act->World->Prop),K (a₁ x) W->
   assign.wpIn (F.inRound l) (n-1-1) P (Exit.then K (fun _ _ _=>False)) { tmps:=(ps.zip (encs x)).foldl (fun t (p,v)=>t.setIfInBounds p v) a.tmps,defers:=[] } W)
  (hbody:∀(l:Nat) (i:ι) (pre:List α) (x:α) (W:World),I pre W->Rk i (pre++[x]) W->body.wpIn (F.inRound l) (n-1-1) P (um w.heap.size W fun W'=>I (pre++[x]) W'/\Rk i (pre++[x]) W') (a₁ x) W)
  (hdone:∀(D:Nat) (i:ι) (xs:List α) (W:World),w.heap.size<=D->S xs->I xs W->Rk i xs W->W.heap[D]? = some (.deferred (some []))->Q .normal { a with defers:={ target:=.collected D,args:=#[] } :: a.defers } W) :
  (Code.rangeFunc g ps assign body).wpIn F n P Q a w:=by
 refine wpIn_rangeFunc fun fn hfn=>?_;rw[hro];obtain⟨rec,hrec⟩:∃rec:LoopState->Option Code->Loop,rec=fun st pe=>{ state:=st,pending:=pe,fn,tmps:=a.tmps,params:=ps,assign,body,defers:=w.heap.size }:=⟨_,rfl⟩
 obtain⟨r,hr0⟩:=af (w.heap.size+1)
 obtain⟨W1,hW1⟩:∃W1,(w.alloc (.deferred (some []))).alloc (.loop (rec .ready none))=W1:=⟨_,rfl⟩
 have hL1:W1.heap[r]? = some (.loop (rec .ready none)):=by
  rw[<-hW1,hr0];have:=World.alloc_heap_new (w.alloc (.deferred (some []))) (.loop (rec .ready none))
  rwa [World.size_alloc]at this
 have hK1:W1.heap[w.heap.size]? = some (.deferred (some [])):=by
  rw[<-hW1]
  exact(Below.heap_alloc _ _ _ (by simp)).trans (World.alloc_heap_new w _)
 have hI1:I [] W1:=by rw[<-hW1];exact hI.alloc _ (hI.alloc _ h0)
 have hR2:R0 W1:=by rw[<-hW1];exact hR0.alloc (s:=()) _ (hR0.alloc (s:=()) _ hR1)
 refine⟨r,[{ target:=.collected w.heap.size,args:=#[] }],W1,{ target:=.fn (.func gf) lb,args:=#[.func (.yield r) #[] #[]] },W1,gf,#[.func (.yield r) #[] #[]]++lb,W1,?_,?_,?_,?_,fun _=>h1,?_⟩
 ·rw[<-hW1,hrec,hr0];exact run_enterLoop_outer _ _ _ _ _
 ·simp only[resolve,hg];simp[go_sem]
 ·intro f' hf';simp[Target.leads]at hf';subst hf'
  exact hFg
 ·simp[invoke,go_sem,eg]
 ·refine(hseq r (fun pre W=>I pre W/\W.heap[r]? = some (.loop (rec .ready none))/\W.heap[w.heap.size]? = some (.deferred (some []))) W1 hR2
   (fun pre A B h hk=>⟨hIF pre A B h.1 hk,hSt A B r _ hk (by omega) h.2.1 rfl rfl,hSt A B _ _ hk ao h.2.2 rfl rfl⟩) ?_ ⟨hI1,hL1,hK1⟩).mono ?_
  ·rintro i pre x W ⟨hi,hl,hk⟩ hrk;have hlt:r < W.heap.size:=(Array.getElem?_eq_some_iff.1 hl).1;have hy:=run_yield (P:=P) (args:=encs x) hl (by rw[hrec];exact hps x);rw[hrec]at hy;refine⟨fn,_,assign,body,hy,roundIn_of_wpIn hfn (hassign _ x W _ ⟨_,run_beginRound hl (by rw[hrec]),?_⟩)⟩;obtain⟨W2,hW2⟩:∃W2,W.putObj r (.loop { rec .ready none with state:=.busy })=W2:=⟨_,rfl⟩
   rw[hW2];have hl2:W2.heap[r]? = some (.loop { rec .ready none with state:=.busy }):=by rw[<-hW2];exact World.putObj_heap_same hlt
   have hk2:W2.heap[w.heap.size]? = some (.deferred (some [])):=by rw[<-hW2];exact(World.putObj_heap_other (by omega)).trans hk
   have hi2:I pre W2:=by rw[<-hW2];exact hI.putObj _ hi (by omega) hl rfl rfl
   have hr2:Rk i (pre++[x]) W2:=by rw[<-hW2];exact(hR i).putObj _ hrk (by omega) hl rfl rfl
   refine wpIn_mono (hbody _ i pre x W2 hi2 hr2) ?_;rintro e a3 W3 hp
   cases e with
   | normal=>
    obtain⟨hk3,hi3,hr3⟩:=hp;have hl3:=hk3.same _ _ (by omega) hl2 rfl;have hend:=run_endRound (P:=P) none hl3;rw[hrec]at hend hl3;refine⟨_,_,hend,rfl,⟨hI.putObj _ hi3 (by omega) hl3 rfl rfl,?_,(World.putObj_heap_other (by omega)).trans (hk3.same _ _ ao hk2 rfl)⟩,(hR i).putObj _ hr3 (by omega) hl3 rfl rfl⟩;rw[hrec]
    exact World.putObj_heap_same (Array.getElem?_eq_some_iff.1 hl3).1
   | ret=>exact hp.elim
   | exit id=>exact hp.elim
   | goto t=>exact hp.elim
   | panic ch=>exact hp.elim
   | outgrown=>exact hp.elim
  ·rintro e W2 ⟨⟨v,rfl⟩,i,xs,hxs,⟨hi,hl,hk⟩,hrk⟩;have hend:=run_endLoop (P:=P) hl (by rw[hrec];simp);rw[hrec]at hend hl
   exact⟨none,_,hend,hdone _ i _ _ ao hxs (hI.putObj _ hi (by omega) hl rfl rfl) ((hR i).putObj _ hrk (by omega) hl rfl rfl) ((World.putObj_heap_other (by omega)).trans hk)⟩
end Go.Proofs.YtiiojpnckbglcaaGreat
namespace Go.Proofs.YtiiojpnckbglcaaGreat
open Go.RowKit
attribute [local go_sem] Oper.semAt_some
def i8 (D:DataW Value) (left:Lit->Bool) (ks:List Int):Prop:=ks.Nodup/\∀x,x∈ks↔(Maps.has D (.int .u64 x)=true/\left (.int .u64 x)=false)
theorem i8.start (D:DataW Value):i8 D (Maps.has D) []:=⟨List.nodup_nil,fun x=>by cases Maps.has D (.int .u64 x)<;>simp⟩
theorem uF (x y:Int):(Lit.int .u64 x).sameKey (.int .u64 y)=decide (x=y):=by
 show decide (IntKind.u64=IntKind.u64/\x=y)=_;simp
theorem i8.step {D:DataW Value} {left:Lit->Bool} {ks:List Int} (h:i8 D left ks) {x:Int} {y:DataW Value} (hlk:left (.int .u64 x)=true) (yA:∀zd,D.atKey (.int .u64 x) zd=y):i8 D (fun z=>left z && !z.sameKey (.int .u64 x)) (ks++[x]):=by
 have hhas:Maps.has D (.int .u64 x)=true:=Maps.has_true_of_atKey yA;have hnew:x ∉ ks:=fun hx=>by have:=((h.2 x).1 hx).2;rw[hlk]at this;cases this
 refine⟨List.nodup_append.2 ⟨h.1,by simp,fun a ha b hb=>by simp at hb;subst hb;exact fun e=>hnew (e ▸ ha)⟩,fun y=>?_⟩;dsimp only;rw[uF];by_cases hy:y=x
 ·subst hy;simp[hhas]
 ·simp[h.2 y,hy]
theorem nh {key:Value} {kl:Lit} (h:keyOf Tryz.prog 76 key=some kl):∃x:Int,key=.int .u64 x/\kl=.int .u64 x/\0<=x/\x < 18446744073709551616:=by
 have hu:Tryz.prog.underlying 76 = some (.int .u64):=Tryz.underlying76
 cases key<;>simp[keyOf,hu,mapKey]at h
 rename_i q a;obtain⟨⟨rfl,hw⟩,rfl⟩:=h;have e1:IntKind.u64.min=0:=rfl;have e2:IntKind.u64.max=18446744073709551615:=rfl;simp[Lit.wf,e1,e2]at hw
 exact⟨a,rfl,rfl,hw.1,by omega⟩
def eV (l:List SE):List Int:=l.map (·.v.ct)
theorem rk {l:List SE} (hr:bQ l) {ks:List Int} (hnd:ks.Nodup) (hm:∀x,x∈ks↔Maps.has (DataW.map (l.map SE.kv)) (.int .u64 x)=true):ks.Perm (eV l):=by
 refine(List.perm_ext_iff_of_nodup hnd ?_).2 fun x=>?_
 ·show(l.map (·.v.ct)).Nodup
  exact List.pairwise_map.2 (hr.imp fun h e=>by omega)
 ·rw[hm x,j9];unfold eV;rw[List.mem_map];constructor
  ·intro h;obtain⟨e,he⟩:=Option.isSome_iff_exists.1 h;obtain⟨h1,h2⟩:=gG he
   exact⟨e,h1,h2⟩
  ·rintro ⟨e,h1,h2⟩
   cases hf:cW x l with
   | some _=>rfl
   | none=>exact absurd h2 (bn.1 hf e h1)
def sZ (sb:Nat) (l:List SE) (B:Nat) (i:Nat×(Lit->Bool)×Nat) (pre:List Int) (W:World):Prop:=
 B<=i.1/\W.ranges Tryz.prog 76 RV sb i.1 l.length (.map (l.map SE.kv)) i.2.1 i.2.2/\i8 (.map (l.map SE.kv)) i.2.1 pre
def wQ (sb:Nat) (l:List SE) (bx:Nat) (W:World):Prop:=SM W sb l/\ae W bx 117 #[.map (some sb)]
def yr (B:Nat) (A A':World):Prop:=∃row,A.grownBy A' row/\∀r,row=some r->B<=r/\∃o:Obj,A.heap[r]? = some o/\o.isWalk=true
theorem rR (sb:Nat) (w:World):Calls Tryz.prog 80 #[.map (some sb)] w fun e w'=>e=.returned (.func (.func 104) #[] #[.pointer (some ⟨w.heap.size,0,none⟩)])/\w.alloc (.cells #[.map (some sb)] 117)=w':=by
 go_enter Tryz.func80,Tryz.ntmps80;go_wp2;go_ret
 exact⟨rfl,rfl⟩
theorem tA (sb:Nat) (l:List SE) (hr:bQ l) (bx B n:Nat) (hn:1<=n) :
  qI Fence.wide n Tryz.prog 104 #[.pointer (some ⟨bx,0,none⟩)] (fun k:Int=>#[.int .u64 k]) (fun W=>wQ sb l bx W/\B<=W.heap.size) (sZ sb l B) (yr B) (fun ks=>ks.Perm (eV l)):=fun lp J W h0 hJ hY hJ0=>by
 have HJ:=Lib.hid hJ;have HY:=Lib.hid hY;have HRI:=Lib.hid hr;obtain⟨⟨hS,hB⟩,hBW⟩:=h0;have hown:W.ownsMap Tryz.prog 76 RV sb l.length (.map (l.map SE.kv)):=hS;have b0:W.cell? ⟨bx,0,none⟩=some (.map (some sb)):=hB.cell 0;have HBW:=Lib.hid hBW;clear hJ hY hr hS hB hBW;refine callsIn_of_wp Tryz.func104 rfl trivial ?_ rfl;simp only[Tryz.ntmps104,List.size_toArray,List.length_cons,List.length_nil,Nat.reduceAdd,Nat.reduceSub,Array.replicate_succ,Array.replicate_zero,List.push_toArray,List.append_toArray,List.nil_append,List.cons_append]
 gi_wp2_with (first
  | (gi_at_range;refine wpListIn_range_own _ rfl _ 117 rfl 76 44 vP Tryz.underlying117 RV sb l.length _ rfl hown ?_;intro w0 hrg0 hg0 hs0)
  | gi_in)
 gi_loopw [3] (fun _ wr=>∃(left:Lit->Bool) (cnt:Nat) (ks:List Int),wr.ranges Tryz.prog 76 RV sb W.heap.size l.length (.map (l.map SE.kv)) left cnt/\i8 (.map (l.map SE.kv)) left ks/\J ks wr)
  (fun _ wr=>wr.rangeLeft sb W.heap.size)
 case atStart=>exact⟨_,_,[],hrg0,i8.start _,HJ.out _ _ _ hJ0 ⟨none,hg0,fun r e=>by cases e⟩⟩
 case round=>
  obtain⟨left,cnt,ks,hrg,hC,hJs⟩:=hrel
  gi_wp2_with (first
   | (gi_at_next;refine wpListIn_next_ranges _ rfl _ rfl 76 vP RV (fun x:Int=>.int .u64 x) id (fun key kl hk=>by obtain⟨x,hx,_⟩:=nh hk;exact⟨x,hx⟩) (fun v _ _=>⟨v,rfl⟩) sb W.heap.size l.length _ _ _ rfl hrg ?_ ?_)
   | gi_in)
  ·intro hc0 hl0
   gi_wp2
   go_end0;refine⟨⟨_,rfl⟩,(W.heap.size,left,cnt),ks,rk HRI.out hC.1 (fun x=>?_),hJs,⟨HBW.out,hrg,hC⟩⟩;rw[hC.2 x,hl0];simp
  ·intro x c kl yd yp w2 cnt2 hkey hlk hv yA hrg2 hlt hg2 hs2 hen;obtain⟨x',ex,rfl,_⟩:=nh hkey;obtain rfl:x=x':=by injection ex
   have hJ2:J ks w2:=HJ.out ks wr w2 hJs ⟨some W.heap.size,hg2,fun r e=>by cases e;exact⟨HBW.out,hrg.iter_walk⟩⟩;obtain⟨fn,tmps,assign,body,hy,hR⟩:=HY.out (W.heap.size,_,cnt2) ks x w2 hJ2 ⟨HBW.out,hrg2,hC.step hlk yA⟩;have HRr:=Lib.hid hR;have HLT:=Lib.hid hlt;have HLE:=Lib.hid hrg.left_eq;clear hs2 hR hlt hrg hC hJs hJ2 hrg2 hg2
   gi_wp2
   refine HRr.out.mono ?_;rintro e W3 ⟨rfl,hJ3,_,hrg3,hC3⟩;have HRG3:=Lib.hid hrg3;have HC3:=Lib.hid hC3;clear hrg3 hC3
   gi_wp2
   go_roundw
   case rel=>exact⟨_,cnt2,ks++[x],HRG3.out,HC3.out,hJ3⟩
   case measure=>rw[HRG3.out.left_eq,HLE.out];exact HLT.out
theorem sq (sb:Nat) (l:List SE) (B:Nat) (i:Nat×(Lit->Bool)×Nat) (N:Nat):dq N (sZ sb l B i):=fun s A A' row ⟨h1,h2,h3⟩ hg hr=>by
 refine⟨h1,h2.kept hg (fun e=>?_) (fun e=>?_),h3⟩
 ·obtain⟨_,o,ho,_,hw⟩:=hr sb e.symm;obtain⟨es,c,_,_,_,hb,_⟩:=h2;rw[hb]at ho;cases ho;cases hw
 ·obtain⟨_,o,ho,_,hw⟩:=hr i.1 e.symm;obtain⟨es,c,since,seen,c0,_,_,_,_,hb,_⟩:=h2;rw[hb]at ho;cases ho;cases hw
theorem nQ {sb:Nat} {l:List SE} {B:Nat} {i:Nat×(Lit->Bool)×Nat} {ks:List Int} {A A':World} (h:sZ sb l B i ks A) (hk:KeepsOthers A A'):sZ sb l B i ks A':=
 ⟨h.1,h.2.1.of_walks ⟨hk.size,fun k o ho hw=>hk.same k o ho (by cases o<;>first | rfl | cases hw)⟩,h.2.2⟩
theorem Tryz.infoU64:(Tryz.prog.info? 76).map (fun i=>(i.zero,i.size,i.bytes))=some (some (.int .u64 0),1,8):=by kernel_rfl
theorem lR:∀(l m:List Int),l.Nodup->(∀x,x∈l->x∈m)->l.length<=m.length
 | [],_,_,_=>Nat.zero_le _
 | x :: r,m,h,hs=>by
  have h1:=List.nodup_cons.1 h;have hx:=hs x (by simp);have:=lR r (m.erase x) h1.2 (fun y hy=>(List.mem_erase_of_ne (fun e:y=x=>h1.1 (by rw[<-e];exact hy))).2 (hs y (by simp[hy])));rw[List.length_erase_of_mem hx]at this;have hp:=List.length_pos_of_mem hx;rw[List.length_cons];omega
theorem ta {sb:Nat} {l:List SE} {B:Nat} {i:Nat×(Lit->Bool)×Nat} {ks:List Int} {A:World} (h:sZ sb l B i ks A):ks.length<=l.length:=by
 have:=lR ks (eV l) h.2.2.1 (fun x hx=>by
  have:=((h.2.2.2 x).1 hx).1;rw[j9]at this;obtain⟨e,he⟩:=Option.isSome_iff_exists.1 this;obtain⟨h1,h2⟩:=gG he
  exact List.mem_map.2 ⟨e,h1,h2⟩)
 rwa [show(eV l).length=l.length from List.length_map _]at this
def wM (w0:World) (N M gb:Nat) (ks:List Int) (W:World):Prop:=(∃v,Boxed W gb 140 v/\W.ownsRow N 76 1 v ks.length (ks.map (Value.int .u64))/\True)/\Below M w0 W
theorem iU (w0:World) (N M gb B:Nat) (hN:M<=w0.heap.size) (hB:M<=B):OwnFrom B (wM w0 N M gb):=
 OwnFrom.and (Own.from (holdsRow_own N gb 140 76 1 (fun s:List Int=>s.length) (fun s=>s.map (Value.int .u64)) (fun _ _=>True)) _) (ownFrom_below hN hB)
theorem ml (sb:Nat) (l:List SE) (bx:Nat) (w:World) (hS:SM w sb l) (hB:ae w bx 117 #[.map (some sb)]) (hr:bQ l) (hl:l.length<=100000) :
  Calls Tryz.prog 122 #[.slice none 0 0,.func (.func 104) #[] #[.pointer (some ⟨bx,0,none⟩)]] w fun e w'=>∃(ks:List Int) (v:Value),e=.returned v/\ks.Perm (eV l)/\w'.ownsRow w.heap.size 76 1 v ks.length (ks.map (Value.int .u64))/\Below w.heap.size w w':=by
 have HS:=Lib.hid hS;have HB:=Lib.hid hB;have HSQ:=Lib.hid (fun B=>tA sb l hr bx B 8 (by decide));have HLL:=Lib.hid hl;obtain⟨i0,hi0,hz0,hz1,hz2⟩:=info_parts Tryz.infoU64;clear hS hB hr hl;refine(callsIn_wide (n:=9)).1 ?_;refine callsIn_of_wp_marks Tryz.func122 rfl trivial ?_ rfl;simp only[Tryz.ntmps122,List.size_toArray,List.length_cons,List.length_nil,Nat.reduceAdd,Nat.reduceSub,Array.replicate_succ,Array.replicate_zero,List.push_toArray,List.append_toArray,List.nil_append,List.cons_append]
 gi_wp2
 obtain⟨gb,hgb⟩:=af w.heap.size
 obtain⟨W1,hW1⟩:=af (w.alloc (.cells #[.slice none 0 0] 140))
 have hz1':W1.heap.size=gb+1:=by rw[hW1,hgb];simp
 have HBX:Hid (Boxed W1 gb 140 (.slice none 0 0)):=Lib.hid (by rw[hW1,hgb];exact Boxed.new w 140 (.slice none 0 0));have HB1:Hid (Below w.heap.size w W1):=Lib.hid (by rw[hW1];exact(Below.refl _ w).alloc ao _);have HK1:Hid (wQ sb l bx W1):=Lib.hid ⟨HS.out.below HB1.out HS.out.lt,HB.out.below HB1.out HB.out.lt⟩;have HGB:=Lib.hid hgb;rw[<-hW1,<-hgb];clear hW1 hgb;refine gx rfl (by decide) (gf:=104) (lb:=#[.pointer (some ⟨bx,0,none⟩)]) rfl trivial (enters_of Tryz.func104 (by kernel_rfl) rfl)
  (HSQ.out (gb+1)) (fun _=>rfl) (fun A A' k o ⟨row,hg,hr⟩ hk ho _ hw=>(hg.block k (Array.getElem?_eq_some_iff.1 ho).1 (fun e=>by
   obtain⟨_,o',ho',hw'⟩:=hr k e.symm;rw[ho]at ho';cases ho';rw[hw]at hw';cases hw')).trans ho)
  (wM W1 (gb+1) gb gb) (fun s A A' row hs hg hr=>iU W1 (gb+1) gb gb _ (by omega) (by omega) s A A' row hs hg (fun r e=>⟨(hr r e).1,let ⟨o,h1,h2,_⟩:=(hr r e).2;⟨o,h1,h2⟩⟩))
  (fun pre A A' h ⟨row,hg,hr⟩=>iU W1 (gb+1) gb gb (gb+1) (by omega) (by omega) pre A A' row h hg (fun r e=>⟨(hr r e).1,let ⟨o,h1,h2⟩:=(hr r e).2;⟨o,h1,Obj.not_cells_of_walk h2⟩⟩))
  (fun i=>sq sb l (gb+1) i _) ⟨⟨_,HBX.out,World.ownsRow_nil _ _ _ _,trivial⟩,Below.refl _ _⟩
  (fun s A A' row ⟨⟨h1,h2⟩,h3⟩ hg hr=>⟨⟨?r1,?r2⟩,ba h3 hg.size⟩) ⟨HK1.out,by omega⟩ ?a1 ?assign ?body ?done
 case r1=>exact h1.keepF (F:=fun k=>row=some k) ⟨hg.os,hg.tape,hg.output,hg.size,fun k hk hn=>hg.block k hk (fun e=>hn e.symm)⟩ (fun e=>by
  obtain⟨_,o,ho,_,hw⟩:=hr sb e;obtain⟨es,c,hb,_⟩:=h1;rw[hb]at ho;cases ho;cases hw)
 case r2=>exact(hg.block bx h2.lt (fun e=>by
  obtain⟨_,o,ho,hc,_⟩:=hr bx e.symm;rw[show A.heap[bx]? = _ from h2]at ho;cases ho;cases hc)).trans h2
 case assign=>
  intro lp x W K hK
  gi_wp2
  exact hK
 case body=>
  rintro lp i pre x W ⟨⟨v,hbx,hown,_⟩,hBW⟩ hKR;have hc:=hbx.cell;have hbs:=hBW.size;have hpl:=ta hKR;rw[List.length_append]at hpl;have hll:=HLL.out;have HKR:=Lib.hid hKR;have hpl2:pre.length < 100000:=by simp at hpl;omega
  clear hKR hpl hll
  gi_wp2_with (gi_at_builtin;refine wpListIn_append_own _ rfl _ _ 140 rfl (gb+1) 76 i0 (.int .u64 0) 1 8 Tryz.underlying140 hi0 hz0 hz1 hz2 rfl (by decide) _ _ _ rfl (hown.alloc _) ⟨W.heap.size,0,none⟩ 1 1 [.int .u64 x] rfl rfl (cell_one_new _ _ _) (by simp[Value.oneCell']) (by unfold maxLen;omega) (by omega) (by simp;omega) ?_;intro v' w1 hown' hgrow _;obtain⟨g',cap',rfl⟩:=ownsRow_succ hown';obtain⟨hv1,hv2,hr2,hk2,hb2⟩:=hbx.appended (by decide) (aT hown (by omega)) (by omega:gb<=W.heap.size) ao (aT hown' (by omega)) hgrow;have hc1:=hv1.cell;have hf1:=hv1.frozen)
  have hown2:(w1.setCell ⟨gb,0,none⟩ (.slice (some ⟨g',0,none⟩) (pre.length+1) cap')).ownsRow (gb+1) 76 1 (.slice (some ⟨g',0,none⟩) (pre.length+1) cap') (pre.length+1) (pre.map (Value.int .u64)++[.int .u64 x]):=
   hown'.kept (grownBy_setCell' w1 gb _) (.inr (hv1.not_row (by decide) hown').symm)
  exact⟨hk2.from _,⟨⟨_,hv2,by simpa using hown2,trivial⟩,hBW.trans hb2⟩,nQ HKR.out hk2⟩
 case done=>
  rintro D i xs W hD hperm hI hKR hK;obtain⟨⟨v2,hbx2,hown2,_⟩,hBW2⟩:=(iU W1 (gb+1) gb gb W1.heap.size (by omega) (by omega)).putObj (.deferred none) hI hD hK rfl;obtain⟨⟨v,hbx,hown,_⟩,hBW⟩:=hI;have hne:gb ≠ D:=by omega
  have hvv:v2=v:=by
   have h1:W.heap[gb]? = some (.cells #[v2] 140 (0,0)):=(World.putObj_heap_other hne).symm.trans hbx2;rw[show W.heap[gb]? = _ from hbx]at h1;injection h1 with h1
   injection h1 with h1
   simpa using h1.symm
  subst hvv;have HOW2:=Lib.hid hown2;have HBW2:=Lib.hid hBW2;clear hown2 hBW2 hbx2;have hc:=hbx.cell;have HPM:=Lib.hid hperm;have HOW:=Lib.hid hown;have HBW:=Lib.hid hBW;have HDK:=Lib.hid hK;clear hperm hown hBW hKR hK
  gi_wp2
  refine⟨by simp,.inl ⟨_,_,rfl,run_takeDeferred HDK.out,?_⟩⟩;refine⟨v2,by simp[results,Tryz.results122,go_sem],xs,v2,rfl,HPM.out,aT HOW2.out (by have:=HGB.out;omega),HB1.out.trans (HBW2.out.mono (by have:=HGB.out;omega))⟩
end Go.Proofs.YtiiojpnckbglcaaGreat

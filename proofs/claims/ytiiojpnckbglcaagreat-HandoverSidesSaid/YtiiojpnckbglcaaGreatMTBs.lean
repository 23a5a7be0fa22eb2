import Derived.Test.YtiiojpnckbglcaaGreatTAs
import Derived.Test.YtiiojpnckbglcaaGreatNAs
import Derived.Test.YtiiojpnckbglcaaGreatApps
import Derived.Test.YtiiojpnckbglcaaGreatStrs
import Derived.Test.YtiiojpnckbglcaaGreatHNs
import Derived.BigGuardPart
import Derived.BigQuiet
import Derived.Deep.DeepFit
import Derived.Deep.OwnRows
import Derived.Deep.QuietTactic
import Derived.Handy
import Derived.KernelRfl
import Derived.ScopeJumps
import Derived.WalkLawsBesides
import Derived.WalkMore
import Derived.WalkSpells
import Derived.RegionTactic
import Derived.ChangeAlike
import Derived.RangeFuncNested
import Derived.RangeFuncBound
import Derived.RangeFuncCalls
import Derived.RangeFuncLeaves
import Derived.Shelf.Abstract
import Derived.Shelf.RegionOpen
import Derived.WalkKit
import Derived.OwnWalkIn
import Derived.TacticsInMore
import Derived.LoopNIn
import Derived.LoopIn
import Derived.RangeFuncBox
import Derived.Deep.RegionHeld3
import Derived.Laws.BitsAllLaws
import Derived.Maps.OwnSet
import Derived.Lib.SliceRun
import Derived.Deep.Upon
import Derived.Test.YtiiojpnckbglcaaGreatB1s
set_option maxRecDepth 100000
set_option maxHeartbeats 12800000
set_option linter.unusedVariables false
set_option linter.unusedSimpArgs false
namespace Go.Proofs.YtiiojpnckbglcaaGreat
open Go.RowKit
structure aZ where
 b:Int
 d:Int
 key:Nat->Int
 code:Nat->Int
 ig:Bool
 cm:Bool
 ac:Bool
 ds:Int
 ro:Int
def aZ.cell (c:aZ) (j:Nat):Value:=
 if j=0 then .int .i64 c.b else if j=1 then .int .i64 c.d else if j < 18 then .int .u8 (c.key (j-2)) else if j < 34 then .int .u8 (c.code (j-18)) else if j=34 then .bool c.ig else if j=35 then .bool c.cm else if j=36 then .bool c.ac else if j=37 then .int .i64 c.ds else .int .i64 c.ro
def aZ.arr (c:aZ):Array Value:=Array.ofFn (n:=39) fun j=>c.cell j.1
theorem aZ.arr_size (c:aZ):c.arr.size=39:=by simp[aZ.arr]
theorem aZ.arr_at (c:aZ) {j:Nat} (hj:j < 39):c.arr[j]? = some (c.cell j):=by unfold aZ.arr;simp[hj]
theorem aZ.cell_one (c:aZ) (j:Nat):(c.cell j).oneCell'=true:=by
 unfold aZ.cell
 repeat (split<;>try rfl)
theorem aZ.arr_one (c:aZ):c.arr.all (·.oneCell')=true:=by
 rw[Array.all_eq_true];intro i hi;simp only[aZ.arr,Array.getElem_ofFn]
 exact c.cell_one i
structure aZ.Ok (c:aZ):Prop where
 key:∀j,j < 16->0<=c.key j/\c.key j < 256
 code:∀j,j < 16->0<=c.code j/\c.code j < 256
def aZ.Valid (c:aZ):Prop:=0<=c.b/\c.b<=31/\(c.d=0\/c.d=1)/\0<=c.ds/\c.ds<=1073741824/\0<=c.ro/\c.ro<=1073741824
instance aZ.decValid (c:aZ):Decidable c.Valid:=by unfold aZ.Valid;infer_instance
def aZ.zero:aZ:=⟨0,0,fun _=>0,fun _=>0,false,false,false,0,0⟩
structure QV where
 n:Nat
 z:Nat->Int
 at_:Int
structure PV where
 ct:Int
 n:Nat
 z:Nat->Int
 rep:Bool
structure WE where
 v:QV
 A:Option Addr
 c:Nat
structure PE where
 v:PV
 A:Option Addr
 c:Nat
def WE.cells (e:WE):List Value:=[.slice e.A e.v.n e.c,.int .i64 e.v.at_]
def PE.cells (e:PE):List Value:=[.int .u32 e.v.ct,.slice e.A e.v.n e.c,.bool e.v.rep]
theorem WE.len (e:WE):e.cells.length=2:=rfl
theorem PE.len (e:PE):e.cells.length=3:=rfl
structure ci (w:World) (R:Nat->Prop) (A:Option Addr) (n c:Nat) (z:Nat->Int):Prop where
 pos:1<=n
 max:n<=9000
 cap:n<=c
 byte:∀j,j < n->0<=z j/\z j < 256
 row:au w w.heap.size A n (fun j=>.int .u8 (z j))
 ro:∀a,A=some a->R a.block
theorem ci.keep {F R:Nat->Prop} {w w':World} {A:Option Addr} {n c:Nat} {z:Nat->Int} (h:ci w R A n c z) (hk:aa F w w') (hF:∀k,F k->¬R k):ci w' R A n c z:=
 ⟨h.pos,h.max,h.cap,h.byte,(hk.row h.row ao (fun a e _ hf=>hF _ hf (h.ro a e))).more hk.size,h.ro⟩
theorem ci.mono {R R':Nat->Prop} {w:World} {A:Option Addr} {n c:Nat} {z:Nat->Int} (h:ci w R A n c z) (hR:∀k,R k->R' k):ci w R' A n c z:=
 ⟨h.pos,h.max,h.cap,h.byte,h.row,fun a e=>hR _ (h.ro a e)⟩
def ft (C:Array Value) (made:Bool) (now next:Int) (q p:Value) (ub cb:Nat):Array Value:=C++#[.bool made,.int .i64 now,.int .u64 next,q,p,.map (some ub),.pointer (some ⟨cb,0,none⟩)]
section
variable {C:Array Value} {made:Bool} {now next:Int} {q p:Value} {ub cb:Nat}
theorem n6 (hC:C.size=39) {j:Nat} (hj:j < 39):(ft C made now next q p ub cb)[j]? = C[j]?:=by
 unfold ft;rw[Array.getElem?_append_left (by omega)]
theorem bv (hC:C.size=39) (j:Nat):(ft C made now next q p ub cb)[39+j]? = (#[.bool made,.int .i64 now,.int .u64 next,q,p,.map (some ub),.pointer (some ⟨cb,0,none⟩)]:Array Value)[j]?:=by
 unfold ft;rw[Array.getElem?_append_right (by omega),hC,show 39+j-39=j by omega]
theorem g7 (hC:C.size=39) (j:Nat) (v:Value):(ft C made now next q p ub cb).setIfInBounds (39+j) v=C++(#[.bool made,.int .i64 now,.int .u64 next,q,p,.map (some ub),.pointer (some ⟨cb,0,none⟩)]:Array Value).setIfInBounds j v:=by
 unfold ft;rw[Array.setIfInBounds_append_right (by omega),hC,show 39+j-39=j by omega]
theorem t8 (hC:C.size=39) (x:Int):(ft C made now next q p ub cb).setIfInBounds 40 (.int .i64 x)=ft C made x next q p ub cb:=g7 hC 1 _
theorem ru (hC:C.size=39) (x:Int):(ft C made now next q p ub cb).setIfInBounds 41 (.int .u64 x)=ft C made now x q p ub cb:=g7 hC 2 _
theorem xt (hC:C.size=39) (x:Value):(ft C made now next q p ub cb).setIfInBounds 42 x=ft C made now next x p ub cb:=g7 hC 3 _
theorem xI (hC:C.size=39) (x:Value):(ft C made now next q p ub cb).setIfInBounds 43 x=ft C made now next q x ub cb:=g7 hC 4 _
end
def UK (w:World) (ub:Nat) (L:List (Array Value)):Prop:=∃es c,w.heap[ub]? = some (.map es c)/\es.toList.map (·.key)=L.map Value.agg/\∀e,e∈es.toList->e.val=.bool true
theorem UK.lt {w:World} {ub:Nat} {L:List (Array Value)} (h:UK w ub L):ub < w.heap.size:=by
 obtain⟨es,c,h1,_⟩:=h
 exact(Array.getElem?_eq_some_iff.1 h1).1
theorem UK.keep {w w':World} {ub:Nat} {L:List (Array Value)} (h:UK w ub L) (hk:w'.heap[ub]? = w.heap[ub]?):UK w' ub L:=by
 obtain⟨es,c,h1,h2⟩:=h
 exact⟨es,c,hk.trans h1,h2⟩
structure TS where
 C:aZ
 now:Int
 next:Int
 Q:List QV
 P:List PV
 used:List (Array Value)
 comp:Obj
structure bN (w:World) (g:Nat) (s:TS) (W R:Nat->Prop) (qA:Option Addr) (qc:Nat) (lq:List WE) (pA:Option Addr) (pc:Nat) (lp:List PE) (ub cb:Nat):Prop where
 blk:ae w g 91 (ft s.C.arr true s.now s.next (.slice qA lq.length qc) (.slice pA lp.length pc) ub cb)
 qv:lq.map (·.v)=s.Q
 pv:lp.map (·.v)=s.P
 q:SL w 96 2 qA lq.length qc (lq.flatMap WE.cells)
 p:SL w 94 3 pA lp.length pc (lp.flatMap PE.cells)
 u:UK w ub s.used
 k:w.heap[cb]? = some s.comp
 qe:∀e,e∈lq->ci w R e.A e.v.n e.c e.v.z
 pe:∀e,e∈lp->ci w R e.A e.v.n e.c e.v.z
 pr:∀e,e∈s.P->0<=e.ct/\e.ct < 4294967296
 wg:W g
 wu:W ub
 wc:W cb
 wq:∀a,qA=some a->W a.block
 wp:∀a,pA=some a->W a.block
 kg:cb ≠ g
 ku:cb ≠ ub
 kq:∀a,qA=some a->cb ≠ a.block
 kp:∀a,pA=some a->cb ≠ a.block
 dis:∀k,W k->R k->False
 win:∀k,W k->k < w.heap.size
 rin:∀k,R k->k < w.heap.size
 now0:0<=s.now/\s.now < 1073741824
 next0:0<=s.next/\s.next<=4294967296
def dK (w:World) (g:Nat) (s:TS) (W R:Nat->Prop):Prop:=∃qA qc lq pA pc lp ub cb,bN w g s W R qA qc lq pA pc lp ub cb
section
variable {w w':World} {g:Nat} {s:TS} {W R F:Nat->Prop} {qA:Option Addr} {qc:Nat} {lq:List WE} {pA:Option Addr} {pc:Nat} {lp:List PE} {ub cb:Nat}
theorem bN.keepF (h:bN w g s W R qA qc lq pA pc lp ub cb) (hk:aa F w w') (hF:∀k,F k->¬W k/\¬R k):bN w' g s W R qA qc lq pA pc lp ub cb:=
 ⟨hk.blk h.blk (fun hf=>(hF _ hf).1 h.wg),h.qv,h.pv,h.q.keepF hk (fun a e hf=>(hF _ hf).1 (h.wq a e)),h.p.keepF hk (fun a e hf=>(hF _ hf).1 (h.wp a e)),h.u.keep (hk.block _ h.u.lt (fun hf=>(hF _ hf).1 h.wu)),
  (hk.block _ (h.win _ h.wc) (fun hf=>(hF _ hf).1 h.wc)).trans h.k,fun e he=>(h.qe e he).keep hk (fun k hf=>(hF k hf).2),fun e he=>(h.pe e he).keep hk (fun k hf=>(hF k hf).2),h.pr,h.wg,h.wu,h.wc,h.wq,h.wp,h.kg,h.ku,h.kq,h.kp,h.dis,
  fun k hk'=>bg (h.win k hk') hk.size,fun k hk'=>bg (h.rin k hk') hk.size,h.now0,h.next0⟩
theorem bN.below (h:bN w g s W R qA qc lq pA pc lp ub cb) (hb:Below w.heap.size w w'):bN w' g s W R qA qc lq pA pc lp ub cb:=
 h.keepF (F:=fun _=>False) (aa.of_below hb) (fun _ hf=>hf.elim)
theorem dK.keepF (h:dK w g s W R) (hk:aa F w w') (hF:∀k,F k->¬W k/\¬R k):dK w' g s W R:=by
 obtain⟨qA,qc,lq,pA,pc,lp,ub,cb,h⟩:=h
 exact⟨qA,qc,lq,pA,pc,lp,ub,cb,h.keepF hk hF⟩
theorem dK.below (h:dK w g s W R) (hb:Below w.heap.size w w'):dK w' g s W R:=
 h.keepF (F:=fun _=>False) (aa.of_below hb) (fun _ hf=>hf.elim)
theorem bN.made (h:bN w g s W R qA qc lq pA pc lp ub cb):w.cell? ⟨g,39,none⟩=some (.bool true):=(h.blk.cell 39).trans (bv s.C.arr_size 0)
theorem bN.cnow (h:bN w g s W R qA qc lq pA pc lp ub cb):w.cell? ⟨g,40,none⟩=some (.int .i64 s.now):=(h.blk.cell 40).trans (bv s.C.arr_size 1)
theorem bN.cnext (h:bN w g s W R qA qc lq pA pc lp ub cb):w.cell? ⟨g,41,none⟩=some (.int .u64 s.next):=(h.blk.cell 41).trans (bv s.C.arr_size 2)
theorem bN.cq (h:bN w g s W R qA qc lq pA pc lp ub cb):w.cell? ⟨g,42,none⟩=some (.slice qA lq.length qc):=(h.blk.cell 42).trans (bv s.C.arr_size 3)
theorem bN.cp (h:bN w g s W R qA qc lq pA pc lp ub cb):w.cell? ⟨g,43,none⟩=some (.slice pA lp.length pc):=(h.blk.cell 43).trans (bv s.C.arr_size 4)
theorem bN.cc (h:bN w g s W R qA qc lq pA pc lp ub cb):w.cell? ⟨g,45,none⟩=some (.pointer (some ⟨cb,0,none⟩)):=(h.blk.cell 45).trans (bv s.C.arr_size 6)
theorem bN.cC (h:bN w g s W R qA qc lq pA pc lp ub cb) {j:Nat} (hj:j < 39):w.cell? ⟨g,j,none⟩=some (s.C.cell j):=(h.blk.cell j).trans ((n6 s.C.arr_size hj).trans (s.C.arr_at hj))
theorem bN.qcell (h:bN w g s W R qA qc lq pA pc lp ub cb) {k:Nat} {e:WE} (hk:lq[k]? = some e):∃b o,qA=some ⟨b,o,none⟩/\b < w.heap.size/\w.cell? ⟨b,o+k*2,none⟩=some (.slice e.A e.v.n e.c)/\w.cell? ⟨b,o+k*2+1,none⟩=some (.int .i64 e.v.at_):=by
 have hlt:k < lq.length:=(List.getElem?_eq_some_iff.1 hk).1;obtain⟨b,o,hA,hb⟩:=h.q.some_ (by omega);refine⟨b,o,hA,hb,?_,?_⟩
 ·have:=h.q.cell hA (j:=k*2+0) (by omega);rw[bp WE.cells 2 WE.len lq k 0 e hk (by omega)]at this
  exact this
 ·have:=h.q.cell hA (j:=k*2+1) (by omega);rw[bp WE.cells 2 WE.len lq k 1 e hk (by omega)]at this
  exact this
theorem bN.pcell (h:bN w g s W R qA qc lq pA pc lp ub cb) {k:Nat} {e:PE} (hk:lp[k]? = some e):∃b o,pA=some ⟨b,o,none⟩/\b < w.heap.size/\w.cell? ⟨b,o+k*3,none⟩=some (.int .u32 e.v.ct)/\w.cell? ⟨b,o+k*3+1,none⟩=some (.slice e.A e.v.n e.c)/\w.cell? ⟨b,o+k*3+2,none⟩=some (.bool e.v.rep):=by
 have hlt:k < lp.length:=(List.getElem?_eq_some_iff.1 hk).1;obtain⟨b,o,hA,hb⟩:=h.p.some_ (by omega);refine⟨b,o,hA,hb,?_,?_,?_⟩
 ·have:=h.p.cell hA (j:=k*3+0) (by omega);rw[bp PE.cells 3 PE.len lp k 0 e hk (by omega)]at this
  exact this
 ·have:=h.p.cell hA (j:=k*3+1) (by omega);rw[bp PE.cells 3 PE.len lp k 1 e hk (by omega)]at this
  exact this
 ·have:=h.p.cell hA (j:=k*3+2) (by omega);rw[bp PE.cells 3 PE.len lp k 2 e hk (by omega)]at this
  exact this
end
def jy (W R:Nat->Prop) (w w':World) (g:Nat) (s:TS):Prop:=∃W' R',dK w' g s W' R'/\(∀k,W' k->W k\/w.heap.size<=k)/\(∀k,R' k->R k\/w.heap.size<=k)/\aa W w w'
theorem jy.same {W R:Nat->Prop} {w w':World} {g:Nat} {s:TS} (h:dK w g s W R) (hb:Below w.heap.size w w'):jy W R w w' g s:=⟨W,R,h.below hb,fun _ h=>.inl h,fun _ h=>.inl h,aa.of_below hb⟩
end Go.Proofs.YtiiojpnckbglcaaGreat
namespace Go.Proofs.YtiiojpnckbglcaaGreat
open Go.RowKit
attribute [local go_sem ↓] Go.wp_at_zero Go.wp_at_succ
theorem aM:(Tryz.prog.info? 25).map (·.size)=some 39:=by kernel_rfl
theorem j5 (g:Nat) (s:TS) (W R:Nat->Prop) (w:World) (h:dK w g s W R):Calls Tryz.prog 49 #[.pointer (some ⟨g,0,none⟩)] w fun e w'=>e=.returned (.bool false)/\w=w':=by
 obtain⟨qA,qc,lq,pA,pc,lp,ub,cb,h⟩:=h;have h2:=h.made;clear h;go_enter Tryz.func49,Tryz.ntmps49;go_wp2;go_ret
 exact⟨rfl,rfl⟩
theorem bu (c:aZ) (w:World):Calls Tryz.prog 35 #[.agg c.arr] w fun e w'=>e=.returned (.bool (decide c.Valid))/\Below w.heap.size w w':=by
 have h0:c.arr[0]? = some (.int .i64 c.b):=c.arr_at (by decide);have h1:c.arr[1]? = some (.int .i64 c.d):=c.arr_at (by decide);have h2:c.arr[37]? = some (.int .i64 c.ds):=c.arr_at (by decide);have h3:c.arr[38]? = some (.int .i64 c.ro):=c.arr_at (by decide);have HV:=zh (show c.Valid↔(0<=c.b/\c.b<=31/\(c.d=0\/c.d=1)/\0<=c.ds/\c.ds<=1073741824/\0<=c.ro/\c.ro<=1073741824)from Iff.rfl);obtain⟨V,hV⟩:=af (decide c.Valid)
 have HD:=zh (show V=true↔c.Valid from by rw[hV];exact decide_eq_true_iff);obtain⟨Z,hZ⟩:=af c.arr
 rw[<-hV];rw[<-hZ]at h0 h1 h2 h3 ⊢;obtain⟨b,hb⟩:=af c.b
 obtain⟨d,hd⟩:=af c.d
 obtain⟨ds,hds⟩:=af c.ds
 obtain⟨ro,hro⟩:=af c.ro
 rw[<-hb]at h0 HV;rw[<-hd]at h1 HV;rw[<-hds]at h2 HV;rw[<-hro]at h3 HV;clear hZ hV hb hd hds hro;go_enter Tryz.func35,Tryz.ntmps35;go_upto_region 1 with (fail)
 refine ag (fun W=>ae W w.heap.size 25 Z/\Below w.heap.size w W) ⟨ae.new _ _ _,(Below.refl _ w).alloc ao _⟩ ?_;rintro W1 ⟨b1,b2⟩;have x0:=(b1.cell 0).trans h0;have x1:=(b1.cell 1).trans h1;have x2:=(b1.cell 37).trans h2;have x3:=(b1.cell 38).trans h3;have HB:=zh b2;clear b1 b2 h0 h1 h2 h3;have hout:∀r:Bool,(r=true↔(0<=b/\b<=31/\(d=0\/d=1)/\0<=ds/\ds<=1073741824/\0<=ro/\ro<=1073741824))->r=V:=fun r hr=>by
  rw[Bool.eq_iff_iff,hr,HD.out,HV.out]
 have HO:=zh hout;clear hout;by_cases c0:b < 0
 ·go_wp2;go_ret
  exact⟨ak (HO.out _ ⟨fun h=>(by cases h),fun h=>(by omega)⟩),HB.out⟩
 by_cases c1:31 < b
 ·go_wp2;go_ret
  exact⟨ak (HO.out _ ⟨fun h=>(by cases h),fun h=>(by omega)⟩),HB.out⟩
 by_cases c2:d=0\/d=1;rotate_left
 ·have d0:(d != 0)=true:=by simp;omega
  have d1:(d != 1)=true:=by simp;omega
  go_wp2;go_ret
  exact⟨ak (HO.out _ ⟨fun h=>(by cases h),fun h=>(by omega)⟩),HB.out⟩
 have hdd:(d != 0 && d != 1)=false:=by rcases c2 with rfl | rfl<;>rfl
 by_cases c3:0<=ds;rotate_left
 ·rcases c2 with rfl | rfl<;>
  ·go_wp2;go_ret
   exact⟨ak (HO.out _ ⟨fun h=>(by cases h),fun h=>(by omega)⟩),HB.out⟩
 by_cases c4:ds<=1073741824;rotate_left
 ·rcases c2 with rfl | rfl<;>
  ·go_wp2;go_ret
   exact⟨ak (HO.out _ ⟨fun h=>(by cases h),fun h=>(by omega)⟩),HB.out⟩
 by_cases c5:0<=ro;rotate_left
 ·rcases c2 with rfl | rfl<;>
  ·go_wp2;go_ret
   exact⟨ak (HO.out _ ⟨fun h=>(by cases h),fun h=>(by omega)⟩),HB.out⟩
 by_cases c6:ro<=1073741824;rotate_left
 ·rcases c2 with rfl | rfl<;>
  ·go_wp2;go_ret
   exact⟨ak (HO.out _ ⟨fun h=>(by cases h),fun h=>(by omega)⟩),HB.out⟩
 rcases c2 with rfl | rfl<;>
 ·go_wp2;go_ret
  exact⟨ak (HO.out _ ⟨fun h=>⟨by omega,by omega,by simp,by omega,by omega,by omega,by omega⟩,fun h=>rfl⟩),HB.out⟩
def bi (nx:Int) (us:Bool):Int:=if us then 4294967296 else nx
theorem nr (nx:Int) (us:Bool) (a b:Value) (w:World) (h:0<=nx/\nx < 4294967296):Calls Tryz.prog 37 #[.agg #[.int .u32 nx,.bool us,a,b]] w fun e w'=>e=.returned (.int .u64 (bi nx us))/\Below w.heap.size w w':=by
 have tw:IntKind.u64.wrap nx=nx:=by simp[IntKind.wrap_u64];omega
 have b0:=zh (fun o:Obj=>(Below.refl _ w).alloc ao o)
 cases us
 ·go_enter Tryz.func37,Tryz.ntmps37;go_wp2;go_ret
  exact⟨rfl,b0.out _⟩
 ·go_enter Tryz.func37,Tryz.ntmps37;go_wp2;go_ret
  exact⟨rfl,b0.out _⟩
def gC (n:Nat):Bool:=decide (1<=n/\n<=9000)
theorem gi (A:Option Addr) (n c:Nat) (w:World):Calls Tryz.prog 74 #[.slice A n c] w fun e w'=>e=.returned (.bool (gC n))/\w=w':=by
 unfold gC;by_cases h1:(1:Int)<=(n:Int)
 ·by_cases h2:(n:Int)<=9000
  ·go_enter Tryz.func74,Tryz.ntmps74;go_wp2;go_ret
   exact⟨ak (by simp;omega),rfl⟩
  ·go_enter Tryz.func74,Tryz.ntmps74;go_wp2;go_ret
   exact⟨ak (by simp;omega),rfl⟩
 ·go_enter Tryz.func74,Tryz.ntmps74;go_wp2;go_ret
  exact⟨ak (by simp;omega),rfl⟩
theorem tI (A:Option Addr) (n c:Nat) (w:World):Calls Tryz.prog 76 #[.slice A n c] w fun e w'=>e=.returned (.bool (!gC n))/\w=w':=by
 have HF:=zh (gi A n c w);go_enter Tryz.func76,Tryz.ntmps76;go_wp2_with (go_at_call 74;refine HF.out.mono ?_;rintro e w1 ⟨rfl,rfl⟩);go_ret
 exact⟨rfl,rfl⟩
theorem pJ (g:Nat) (s:TS) (W R:Nat->Prop) (w:World) (h:dK w g s W R):Calls Tryz.prog 77 #[.pointer (some ⟨g,0,none⟩)] w fun e w'=>e=.returned (.tuple #[.agg s.C.arr,.int .i64 0])/\Below w.heap.size w w':=by
 have HN:=zh (fun(W':World) (hb:Below w.heap.size w W')=>j5 g s W R W' (h.below hb));obtain⟨qA,qc,lq,pA,pc,lp,ub,cb,h⟩:=h;obtain⟨Z,hZ⟩:=af s.C.arr
 have HZ:=zh hZ;have hs:Z.size=39:=by rw[hZ];exact s.C.arr_size
 have hr:w.rangeAt g 0 Z.toList:=fun j v hj=>by
  have hj39:j < 39:=by have:=(List.getElem?_eq_some_iff.1 hj).1;simpa[hs]using this
  rw[Nat.zero_add,h.blk.cell j,n6 s.C.arr_size hj39,<-hZ];simpa using hj
 have hglt:=h.blk.lt;have HSZ:Hid ((Tryz.prog.info? 25).map (·.size)=some Z.size):=zh (by rw[hs];exact aM);have HSL:Hid ((Tryz.prog.info? 25).map (·.size)=some Z.toList.length):=zh (by rw[Array.length_toList,hs];exact aM);have HO:Hid (Z.all (·.oneCell')=true):=zh (by rw[hZ];exact s.C.arr_one);have HZZ:Hid (xT.size=Z.size):=zh (by rw[hs];rfl);have HR:=zh (fun(W':World) (hb:Below w.heap.size w W')=>(show W'.rangeAt g 0 Z.toList from fun j v hj=>(hb.cell (p:=⟨g,0+j,none⟩) hglt).trans (hr j v hj)));clear hr h hs hZ;go_enter Tryz.func77,Tryz.ntmps77;go_upto_region 1 with (fail)
 refine ag (fun W'=>ae W' w.heap.size 25 xT/\Below w.heap.size w W') ⟨ae.new _ _ _,(Below.refl _ w).alloc ao _⟩ ?_;rintro W1 ⟨b1,b2⟩;have B1:=zh b1;have B2:=zh b2;clear b1 b2;go_wp2_with (first
  | (go_at_call 49;refine(HN.out _ B2.out).mono ?_;rintro e w1 ⟨rfl,rfl⟩)
  | (refine wpList_load_mid rfl _ _ rfl g 0 rfl Z.toList _ (HR.out _ B2.out) Tryz.underlying25 rfl HSL.out ?_)
  | (refine wpList_store_row rfl _ _ _ rfl w.heap.size Z rfl rfl 25 xT B1.out HSZ.out HZZ.out HO.out ?_))
 refine bodyPost_ret (v:=.tuple #[.agg Z,.int .i64 0]) (aO (g:=w.heap.size) (t:=25) (fr:=(0,0)) Tryz.results77 _ _ Z _ rfl (ae.setRow B1.out) Tryz.underlying25 rfl HSZ.out _ rfl) rfl ⟨by rw[HZ.out],aj B2.out ao _⟩
end Go.Proofs.YtiiojpnckbglcaaGreat
namespace Go.Proofs.YtiiojpnckbglcaaGreat
open Go.RowKit
structure fC (w:World) (A:Option Addr) (m:Nat) (ct:Nat->Int) (PA:Nat->Option Addr) (pn pc:Nat->Nat) (z:Nat->Nat->Int):Prop where
 at_:m ≠ 0->∃lb lo,A=some ⟨lb,lo,none⟩/\lb < w.heap.size/\∀k,k < m->w.cell? ⟨lb,lo+k*2,none⟩=some (.int .u32 (ct k))/\w.cell? ⟨lb,lo+k*2+1,none⟩=some (.slice (PA k) (pn k) (pc k))
 rng:∀k,k < m->0<=ct k/\ct k < 4294967296
 len:∀k,k < m->pn k<=9223372036854775807
 cap:∀k,k < m->pn k<=pc k
 byte:∀k,k < m->∀j,j < pn k->0<=z k j/\z k j < 256
 row:∀k,k < m->au w w.heap.size (PA k) (pn k) (fun j=>.int .u8 (z k j))
theorem fC.below {w w':World} {A:Option Addr} {m:Nat} {ct:Nat->Int} {PA:Nat->Option Addr} {pn pc:Nat->Nat} {z:Nat->Nat->Int} (h:fC w A m ct PA pn pc z) (hb:Below w.heap.size w w'):fC w' A m ct PA pn pc z:=
 ⟨fun hm=>by
  obtain⟨lb,lo,e,hlt,hc⟩:=h.at_ hm
  exact⟨lb,lo,e,bg hlt hb.size,fun k hk=>⟨(hb.cell (p:=⟨lb,lo+k*2,none⟩) hlt).trans (hc k hk).1,(hb.cell (p:=⟨lb,lo+k*2+1,none⟩) hlt).trans (hc k hk).2⟩⟩,h.rng,h.len,h.cap,h.byte,fun k hk=>(h.row k hk).next hb⟩
theorem az (W:World) (t:TypeId) (cs:Array Value) (N:Nat) (hN:W.heap.size=N):ae (W.alloc (.cells cs t)) N t cs:=by
 subst hN;exact ae.new W t cs
end Go.Proofs.YtiiojpnckbglcaaGreat
namespace Go.Proofs.YtiiojpnckbglcaaGreat
open Go.RowKit
attribute [local go_sem ↓] Go.wp_at_zero Go.wp_at_succ
structure dW (w:World) (A:Option Addr) (m:Nat) (PA:Nat->Option Addr) (pn pc:Nat->Nat) (z:Nat->Nat->Int):Prop where
 at_:m ≠ 0->∃lb lo,A=some ⟨lb,lo,none⟩/\lb < w.heap.size/\∀k,k < m->w.cell? ⟨lb,lo+k,none⟩=some (.slice (PA k) (pn k) (pc k))
 len:∀k,k < m->pn k<=9223372036854775807
 cap:∀k,k < m->pn k<=pc k
 byte:∀k,k < m->∀j,j < pn k->0<=z k j/\z k j < 256
 row:∀k,k < m->au w w.heap.size (PA k) (pn k) (fun j=>.int .u8 (z k j))
theorem dW.below {w w':World} {A:Option Addr} {m:Nat} {PA:Nat->Option Addr} {pn pc:Nat->Nat} {z:Nat->Nat->Int} (h:dW w A m PA pn pc z) (hb:Below w.heap.size w w'):dW w' A m PA pn pc z:=
 ⟨fun hm=>by
  obtain⟨lb,lo,e,hlt,hc⟩:=h.at_ hm
  exact⟨lb,lo,e,bg hlt hb.size,fun k hk=>(hb.cell (p:=⟨lb,lo+k,none⟩) hlt).trans (hc k hk)⟩,h.len,h.cap,h.byte,fun k hk=>(h.row k hk).next hb⟩
def aL (p:Nat->Bool):Nat->Nat->Int
 | _,0=>-1
 | k,d+1=>if p k=true then (k:Int) else aL p (k+1) d
theorem fM (p:Nat->Bool) (k n:Nat) (h:k < n):aL p k (n-k)=if p k=true then (k:Int) else aL p (k+1) (n-(k+1)):=by
 rw[show n-k=(n-(k+1))+1 by omega];rfl
theorem i7 (p:Nat->Bool):∀d k,0<=aL p k d↔∃j,k<=j/\j < k+d/\p j=true
 | 0,k=>by
  unfold aL
  exact⟨fun h=>absurd h (by decide),fun⟨j,h1,h2,_⟩=>by omega⟩
 | d+1,k=>by
  unfold aL;by_cases hp:p k=true
  ·rw[if_pos hp]
   exact⟨fun _=>⟨k,Nat.le_refl _,by omega,hp⟩,fun _=>Int.natCast_nonneg _⟩
  ·rw[if_neg hp,i7 p d (k+1)];constructor
   ·rintro ⟨j,h1,h2,h3⟩;exact⟨j,by omega,by omega,h3⟩
   ·rintro ⟨j,h1,h2,h3⟩;have:j ≠ k:=fun e=>hp (e ▸ h3)
    exact⟨j,by omega,by omega,h3⟩
def pG (p:Nat->Bool) (n:Nat):Bool:=decide (0<=aL p 0 n)
theorem nB (p:Nat->Bool) (n:Nat):pG p n=true↔∃j,j < n/\p j=true:=by
 unfold pG;rw[decide_eq_true_iff,i7]
 exact⟨fun⟨j,_,h2,h3⟩=>⟨j,by omega,h3⟩,fun⟨j,h2,h3⟩=>⟨j,Nat.zero_le _,by omega,h3⟩⟩
theorem sH (A:Option Addr) (n c:Nat) (PA:Nat->Option Addr) (pn pc:Nat->Nat) (z:Nat->Nat->Int) (hn:n<=maxLen) (w:World) (hr:dW w A n PA pn pc z) :
  Calls Tryz.prog 101 #[.slice A n c,.func (.func 76) #[] #[]] w fun e w'=>e=.returned (.int .i64 (aL (fun k=>!gC (pn k)) 0 n))/\w=w':=by
 unfold maxLen at hn;by_cases hn0:n=0
 ·subst hn0;go_enter Tryz.func101,Tryz.ntmps101;go_wp2;go_loop [8] (fun v=>v=.int .i64 0) (fun _=>0)
  case atStart=>rfl
  case round=>
   subst hrel;go_wp2;go_ret
   exact⟨rfl,rfl⟩
 obtain⟨lb,lo,rfl,hlb,hc⟩:=hr.at_ (by omega);have HC:=zh hc;obtain⟨F,hF⟩:∃F,F=fun k=>!gC (pn k):=⟨_,rfl⟩
 have HF0:=zh hF;rw[<-hF];clear hc hr hF;go_enter Tryz.func101,Tryz.ntmps101;go_wp2;go_loop [8] (fun v=>∃k:Nat,k<=n/\v=.int .i64 k/\aL F 0 n=aL F k (n-k)) (fun v=>n-(intOf v).toNat)
 case atStart=>exact⟨0,by omega,rfl,rfl⟩
 case round=>
  obtain⟨k,hk,rfl,hfw⟩:=hrel;have HF:=zh hfw;clear hfw;by_cases hlt:k < n
  ·have c0:w.cell? ⟨lb,lo+k,none⟩=some (.slice (PA k) (pn k) (pc k)):=HC.out k hlt;have HB:=zh (tI (PA k) (pn k) (pc k) w);have hFk:F k = !gC (pn k):=by rw[HF0.out]
   have HST:=zh (fM F k n hlt);obtain⟨b,hb⟩:∃b,b = !gC (pn k):=⟨_,rfl⟩
   rw[<-hb]at HB hFk;have HFk:=zh hFk;clear hb hFk
   cases b
   ·have HS2:=zh (HST.out.trans (if_neg (by rw[HFk.out];decide)));go_wp2_with (go_at_call 76;refine(HB.out).mono ?_;rintro e w2 ⟨rfl,rfl⟩);go_round
    case rel=>exact⟨k+1,by omega,by go_num,by rw[HF.out,HS2.out]⟩
    case measure=>simp[intOf];omega
   ·have HS2:=zh (HST.out.trans (if_pos HFk.out));go_wp2_with (go_at_call 76;refine(HB.out).mono ?_;rintro e w2 ⟨rfl,rfl⟩);go_ret
    exact⟨eY (by rw[HF.out,HS2.out]),rfl⟩
  ·obtain rfl:k=n:=by omega
   have HF2:=zh (show aL F 0 k = -1 by rw[HF.out,Nat.sub_self];rfl);clear HF;go_wp2;go_ret
   exact⟨eY HF2.out.symm,rfl⟩
theorem mM (A:Option Addr) (n c:Nat) (PA:Nat->Option Addr) (pn pc:Nat->Nat) (z:Nat->Nat->Int) (hn:n<=maxLen) (w:World) (hr:dW w A n PA pn pc z) :
  Calls Tryz.prog 75 #[.slice A n c,.func (.func 76) #[] #[]] w fun e w'=>e=.returned (.bool (pG (fun k=>!gC (pn k)) n))/\w=w':=by
 have HI:=zh (sH A n c PA pn pc z hn w hr);obtain⟨x,hx⟩:∃x,x=aL (fun k=>!gC (pn k)) 0 n:=⟨_,rfl⟩
 have hA:pG (fun k=>!gC (pn k)) n=decide (0<=x):=by unfold pG;rw[hx]
 rw[hA];rw[<-hx]at HI;clear hx hA hr;go_enter Tryz.func75,Tryz.ntmps75;go_wp2_with (go_at_call 101;refine(HI.out).mono ?_;rintro e w2 ⟨rfl,rfl⟩);go_ret
 exact⟨rfl,rfl⟩
def jM (N:Int) (ct:Nat->Int) (pn:Nat->Nat) (k:Nat):Prop:=gC (pn k)=true/\ct k < N/\(0 < k->ct (k-1) < ct k)
structure sR (ac:Bool) (nx:Int) (us:Bool) (m:Nat) (ct:Nat->Int) (pn:Nat->Nat) (mq:Nat) (qn:Nat->Nat):Prop where
 used:us=true->nx=0
 acked:0 < m->ac=true
 elem:∀k,k < m->jM (bi nx us) ct pn k
 window:0 < m->bi nx us-ct 0<=2048
 queue:∀k,k < mq->gC (qn k)=true
theorem j7 (cf:aZ) (A A2:Option Addr) (m c1 mq c2:Nat) (nx:Int) (us:Bool) (ct:Nat->Int) (PA:Nat->Option Addr) (pn pc:Nat->Nat) (z:Nat->Nat->Int) (QA:Nat->Option Addr) (qn qc:Nat->Nat) (y:Nat->Nat->Int) (w:World) (hnx:0<=nx/\nx < 4294967296) (hm:m<=maxLen) (hmq:mq<=maxLen)
  (h:fC w A m ct PA pn pc z) (hq:dW w A2 mq QA qn qc y) (r:Bool) (hr:r=true↔sR cf.ac nx us m ct pn mq qn) :
  Calls Tryz.prog 36 #[.agg cf.arr,.agg #[.int .u32 nx,.bool us,.slice A m c1,.slice A2 mq c2]] w fun e w'=>e=.returned (.bool r)/\Below w.heap.size w w':=by
 unfold maxLen at hm;have HC:=zh h;have HQ:=zh (fun(W:World) (hb:Below w.heap.size w W)=>mM A2 mq c2 QA qn qc y hmq W (hq.below hb));have HNX:=zh (fun(W:World)=>nr nx us (.slice A m c1) (.slice A2 mq c2) W hnx);have HNo:=zh (fun(hn:¬sR cf.ac nx us m ct pn mq qn)=>(show Ending.returned (.bool false)=Ending.returned (.bool r)from ak (by
  rcases Bool.eq_false_or_eq_true r with h | h
  ·exact absurd (hr.1 h) hn
  ·exact h.symm)))
 have HYes:=zh (fun(hn:sR cf.ac nx us m ct pn mq qn)=>(show Ending.returned (.bool true)=Ending.returned (.bool r)from ak (hr.2 hn).symm));have h36:cf.arr[36]? = some (.bool cf.ac):=cf.arr_at (by decide);obtain⟨Z,hZ⟩:=af cf.arr
 obtain⟨ac,hac⟩:=af cf.ac
 obtain⟨N,hN⟩:=af (bi nx us)
 have N0:0<=N/\N<=4294967296:=by rw[hN];unfold bi;split<;>omega
 rw[<-hZ,<-hac]at h36;rw[<-hac]at HNo HYes;rw[<-hZ];rw[<-hN]at HNX;have HN:=zh hN;have hnx0:=hnx.1;clear h hq hr hZ hac hN hmq hnx;go_enter Tryz.func36,Tryz.ntmps36;go_upto_region 1 with (fail)
 refine ag (fun W=>ae W w.heap.size 25 Z/\ae W (w.heap.size+1) 30 #[.int .u32 nx,.bool us,.slice A m c1,.slice A2 mq c2]/\Below w.heap.size w W) ⟨(ae.new _ _ _).alloc _,az _ _ _ _ (by simp),((Below.refl _ w).alloc ao _).alloc (by simp) _⟩ ?_;rintro W1 ⟨b1,b2,b3⟩;obtain⟨zb,hzb⟩:=af w.heap.size
 rw[<-hzb]at b1 b2 ⊢;have HZB:=zh hzb;have x36:=(b1.cell 36).trans h36;have f0:=b2.cell 0;have f1:=b2.cell 1;have f2:=b2.cell 2;have f3:=b2.cell 3;simp at f0 f1 f2 f3;have B1:=zh b1;have B2:=zh b2;have B3:=zh (show Below w.heap.size w W1 from by exact b3);clear b1 b2 b3 hzb h36;by_cases hun:us=true/\nx ≠ 0
 ·obtain⟨rfl,hn0⟩:=hun;have d0:(nx != 0)=true:=by simpa using hn0
  have HF:=zh (HNo.out fun h=>hn0 (h.used rfl));clear hn0;go_wp2;go_ret
  exact⟨HF.out,B3.out⟩
 by_cases hma:0 < m/\ac=false
 ·obtain⟨hm0,rfl⟩:=hma;have d1:(0:Int) < (m:Int):=by omega
  have HF:=zh (HNo.out fun h=>(by have:=h.acked hm0;cases this))
  cases us
  ·clear hun;go_wp2;go_ret
   exact⟨HF.out,B3.out⟩
  ·obtain rfl:nx=0:=by
    rcases Classical.em (nx=0)with e | e
    ·exact e
    ·exact absurd ⟨rfl,e⟩ hun
   clear hun;go_wp2;go_ret
   exact⟨HF.out,B3.out⟩
 have HUN:=zh hun;have HMA:=zh hma;clear hun hma;go_cut [24]from 7 to 24 (fun v24 wx=>v24=.bool false/\wx=W1)
 case first=>
  have hu2:us=false\/(us=true/\nx=0):=by
   cases us
   ·exact .inl rfl
   ·refine .inr ⟨rfl,?_⟩;rcases Classical.em (nx=0)with e | e
    ·exact e
    ·exact absurd ⟨rfl,e⟩ HUN.out
  have ha2:m=0\/(0 < m/\ac=true):=by
   rcases Nat.eq_zero_or_pos m with e | e
   ·exact .inl e
   ·refine .inr ⟨e,?_⟩
    cases ac
    ·exact absurd ⟨e,rfl⟩ HMA.out
    ·rfl
  rcases hu2 with rfl | ⟨rfl,rfl⟩<;>rcases ha2 with rfl | ⟨hm0,rfl⟩
  ·go_wp2;go_meet
   exact⟨rfl,rfl⟩
  ·have d1:(0:Int) < (m:Int):=by omega
   go_wp2;go_meet
   exact⟨rfl,rfl⟩
  ·go_wp2;go_meet
   exact⟨rfl,rfl⟩
  ·have d1:(0:Int) < (m:Int):=by omega
   go_wp2;go_meet
   exact⟨rfl,rfl⟩
 case rest=>
  obtain⟨rfl,rfl⟩:=hcut;have hzl:zb < wc.heap.size:=B1.out.lt;have hfl:zb+1 < wc.heap.size:=B2.out.lt;go_wp2;go_loopw [28] (fun v28 wr=>∃k:Nat,k<=m/\v28=.int .i64 k/\(∀j,j < k->jM N ct pn j)/\Below wc.heap.size wc wr) (fun v28 _=>m-(intOf v28).toNat)
  case atStart=>exact⟨0,by omega,rfl,fun j hj=>by omega,Below.refl _ _⟩
  case round=>
   obtain⟨k,hk,rfl,hall,hBr⟩:=hrel;have HALL:=zh hall;have BR:=zh hBr;have y0:wr.cell? ⟨zb+1,0,none⟩=some (.int .u32 nx):=(hBr.cell (p:=⟨zb+1,0,none⟩) hfl).trans f0;have y1:wr.cell? ⟨zb+1,1,none⟩=some (.bool us):=(hBr.cell (p:=⟨zb+1,1,none⟩) hfl).trans f1;have y2:wr.cell? ⟨zb+1,2,none⟩=some (.slice A m c1):=(hBr.cell (p:=⟨zb+1,2,none⟩) hfl).trans f2;have y3:wr.cell? ⟨zb+1,3,none⟩=some (.slice A2 mq c2):=(hBr.cell (p:=⟨zb+1,3,none⟩) hfl).trans f3;have hzr:zb+1 < wr.heap.size:=by have:=hBr.size;omega
   have hwz:w.heap.size<=wc.heap.size:=B3.out.size;have HCr:=zh (HC.out.below (av B3.out hBr));clear hall hBr;by_cases hlt:k < m
   ·obtain⟨lb,lo,rfl,hlb,hlc⟩:=HCr.out.at_ (by omega);obtain⟨c0,c1⟩:=hlc k hlt;have HPREV:=zh (fun(h0:0 < k)=>(hlc (k-1) (by omega)).1);obtain⟨r0,r1⟩:=HC.out.rng k hlt;have HEK:=zh (show jM N ct pn k↔gC (pn k)=true/\ct k < N/\(0 < k->ct (k-1) < ct k)from Iff.rfl);obtain⟨x,hx⟩:=af (ct k)
    obtain⟨fb,hfb⟩:=af (gC (pn k))
    rw[<-hx]at r0 r1 c0 HEK;rw[<-hfb]at HEK;have HFB:=zh hfb;have tw:IntKind.u64.wrap x=x:=by simp[IntKind.wrap_u64];omega
    have k0:(0:Int)<=(k:Int):=by omega
    have k1:(k:Int) < (m:Int):=by omega
    clear hx hlc hfb;go_upto_region 6 with (fail)
    refine ag (fun W=>ae W wr.heap.size 68 #[.int .u32 x,.slice (PA k) (pn k) (pc k)]/\Below wr.heap.size wr W) ⟨ae.new _ _ _,(Below.refl _ wr).alloc ao _⟩ ?_;rintro W6 ⟨b6,b7⟩;obtain⟨xb,hxb⟩:=af wr.heap.size
    rw[<-hxb]at b6 ⊢;have BW:=zh (av (BR.out.mono ao) b7);have cell:=fun(b o:Nat) (v:Value) (hb:b < wr.heap.size) (hv:wr.cell? ⟨b,o,none⟩=some v)=>(fun(e:fQ W6)=>e.cell ((b7.cell (p:=⟨b,o,none⟩) hb).trans hv) (bg hb b7.size))
    have u0:=cell _ _ _ hzr y0;have u1:=cell _ _ _ hzr y1;have u2:=cell _ _ _ hzr y2;have u3:=cell _ _ _ hzr y3;have hxl:=b6.lt;have u4:∀e:fQ W6,e.v.cell? ⟨xb,0,none⟩=some (.int .u32 x):=fun e=>e.cell (b6.cell 0) hxl;have u5:∀e:fQ W6,e.v.cell? ⟨xb,1,none⟩=some (.slice (PA k) (pn k) (pc k)):=fun e=>e.cell (b6.cell 1) hxl;have HCELL:=zh cell;clear cell b6 b7 hxb c0 c1 y0 y1 y2 y3;rcases Bool.eq_false_or_eq_true fb with hfb | hfb
    rotate_left
    ·subst hfb;have HF:=zh (HNo.out fun h=>(by have:=(HEK.out.1 (by have:=h.elem k hlt;rwa [<-HN.out]at this)).1;cases this));have FB:=HFB.out.symm;refine bf (by kernel_rfl) (by kernel_rfl) ?_
     repeat (go_big_quiet_step (first
      | (go_at_call 74;exact Calls.ext_ofT ((gi _ _ _ _).mono fun e w' h=>⟨h.1,by rw[<-h.2];exact Below.refl _ _⟩))
      | (go_at_call 37;exact Calls.ext_ofT (HNX.out _))))
     refine wpQuiet_nil ?_;rintro _ ⟨ex,rfl⟩;go_wp2;go_ret
     exact⟨HF.out,B3.out.trans ((BW.out.trans (ex.h.mono BW.out.size)).mono hwz)⟩
    subst hfb;have FB:=HFB.out.symm;by_cases hlN:N<=x
    ·have HF:=zh (HNo.out fun h=>(by have:=(HEK.out.1 (by have:=h.elem k hlt;rwa [<-HN.out]at this)).2.1;omega));have dl:decide (N<=x)=true:=by simpa using hlN
     refine bf (by kernel_rfl) (by kernel_rfl) ?_
     repeat (go_big_quiet_step (first
      | (go_at_call 74;exact Calls.ext_ofT ((gi _ _ _ _).mono fun e w' h=>⟨h.1,by rw[<-h.2];exact Below.refl _ _⟩))
      | (go_at_call 37;exact Calls.ext_ofT (HNX.out _))))
     refine wpQuiet_nil ?_;rintro _ ⟨ex,rfl⟩;go_wp2;go_ret
     exact⟨HF.out,B3.out.trans ((BW.out.trans (ex.h.mono BW.out.size)).mono hwz)⟩
    have dl:decide (N<=x)=false:=by simpa using hlN
    by_cases hk0:k=0
    ·have HOKK:=zh (HEK.out.2 ⟨rfl,by omega,fun h=>absurd h (by omega)⟩);have HAL2:=zh (show ∀j,j < k+1->jM N ct pn j from fun j hj=>by
      by_cases e:j=k
      ·subst e;exact HOKK.out
      ·exact HALL.out j (by omega))
     have dkb:decide (0 < k)=false:=by simpa using hk0
     clear hk0;refine bf (by kernel_rfl) (by kernel_rfl) ?_
     repeat (go_big_quiet_step (first
      | (go_at_call 74;exact Calls.ext_ofT ((gi _ _ _ _).mono fun e w' h=>⟨h.1,by rw[<-h.2];exact Below.refl _ _⟩))
      | (go_at_call 37;exact Calls.ext_ofT (HNX.out _))))
     refine wpQuiet_nil ?_;rintro _ ⟨ex,rfl⟩;have BE:=zh (BW.out.trans (ex.h.mono BW.out.size));go_wp2;go_roundw
     case rel=>first | exact⟨k+1,by omega,by go_num,HAL2.out,BE.out⟩ | ((repeat apply Exists.intro);exact⟨⟨k+1,by omega,by go_num,HAL2.out,BE.out⟩,rfl⟩)
     case measure=>simp[intOf];omega
    have dkb:decide (0 < k)=true:=by simp;omega
    have wk:IntKind.i64.wrap ((k:Int)-1)=((k-1:Nat):Int):=by rw[IntWalk.i64_in _ (by omega)];omega
    have kk0:(0:Int)<=((k-1:Nat):Int):=by omega
    have kk1:((k-1:Nat):Int) < (m:Int):=by omega
    have u6:=HCELL.out _ _ _ hlb (HPREV.out (by omega));obtain⟨q,hq⟩:=af (k-1)
    rw[<-hq]at wk kk0 kk1 u6 HEK;obtain⟨xp,hxp⟩:=af (ct q)
    rw[<-hxp]at u6 HEK;clear hq hxp;by_cases hle:x<=xp
    ·have HF:=zh (HNo.out fun h=>(by have:=(HEK.out.1 (by have:=h.elem k hlt;rwa [<-HN.out]at this)).2.2 (by omega);omega));have dp:decide (x<=xp)=true:=by simpa using hle
     refine bf (by kernel_rfl) (by kernel_rfl) ?_
     repeat (go_big_quiet_step (first
      | (go_at_call 74;exact Calls.ext_ofT ((gi _ _ _ _).mono fun e w' h=>⟨h.1,by rw[<-h.2];exact Below.refl _ _⟩))
      | (go_at_call 37;exact Calls.ext_ofT (HNX.out _))))
     refine wpQuiet_nil ?_;rintro _ ⟨ex,rfl⟩;go_wp2;go_ret
     exact⟨HF.out,B3.out.trans ((BW.out.trans (ex.h.mono BW.out.size)).mono hwz)⟩
    have dp:decide (x<=xp)=false:=by simpa using hle
    have HOKK:=zh (HEK.out.2 ⟨rfl,by omega,fun _=>by omega⟩);refine bf (by kernel_rfl) (by kernel_rfl) ?_
    repeat (go_big_quiet_step (first
     | (go_at_call 74;exact Calls.ext_ofT ((gi _ _ _ _).mono fun e w' h=>⟨h.1,by rw[<-h.2];exact Below.refl _ _⟩))
     | (go_at_call 37;exact Calls.ext_ofT (HNX.out _))))
    refine wpQuiet_nil ?_;rintro _ ⟨ex,rfl⟩;have BE:=zh (BW.out.trans (ex.h.mono BW.out.size));have HAL2:=zh (show ∀j,j < k+1->jM N ct pn j from fun j hj=>by
     by_cases e:j=k
     ·subst e;exact HOKK.out
     ·exact HALL.out j (by omega))
    go_wp2;go_roundw
    case rel=>first | exact⟨k+1,by omega,by go_num,HAL2.out,BE.out⟩ | ((repeat apply Exists.intro);exact⟨⟨k+1,by omega,by go_num,HAL2.out,BE.out⟩,rfl⟩)
    case measure=>simp[intOf];omega
   ·obtain rfl:k=m:=by omega
    have HALL2:=zh HALL.out;by_cases hk0:k=0
    ·have dkb:decide (0 < k)=false:=by simpa using hk0
     have HK0:=zh hk0;clear hk0;have u2:∀e:fQ wr,e.v.cell? ⟨zb+1,2,none⟩=some (.slice A k c1):=fun e=>e.cell y2 hzr;have HQ3:=zh y3;clear y0 y1 y2 y3;go_upto_region 9 with (fail)
     refine bf (by kernel_rfl) (by kernel_rfl) ?_
     repeat (go_big_quiet_step (first
      | (go_at_call 37;exact Calls.ext_ofT (HNX.out _))))
     refine wpQuiet_nil ?_;rintro _ ⟨ex,rfl⟩;have y3:=ex.cell HQ3.out hzr;have BE:=zh (BR.out.trans (ex.h.mono BR.out.size));have HQC:=zh (HQ.out _ (B3.out.trans (BE.out.mono hwz)));obtain⟨bq,hbq⟩:∃b,b=pG (fun k=>!gC (qn k)) mq:=⟨_,rfl⟩
     rw[<-hbq]at HQC;have HRES:=zh (show Ending.returned (.bool (!bq))=Ending.returned (.bool r)from by
      have hiff:=nB (fun k=>!gC (qn k)) mq;rw[<-hbq]at hiff
      cases bq
      ·exact HYes.out ⟨fun h=>(by
        rcases Classical.em (nx=0)with e | e
        ·exact e
        ·exact absurd ⟨h,e⟩ HUN.out),fun h=>(by
        cases ac
        ·exact absurd ⟨h,rfl⟩ HMA.out
        ·rfl),fun j hj=>(by rw[<-HN.out];exact HALL.out j hj),fun h=>absurd h (by have:=HK0.out;omega),fun j hj=>(by
        rcases Bool.eq_false_or_eq_true (gC (qn j))with e | e
        ·exact e
        ·exact absurd (hiff.2 ⟨j,hj,by rw[e];rfl⟩) (by decide))⟩
      ·refine HNo.out fun h=>?_;obtain⟨j,hj,e⟩:=hiff.1 rfl;have:=h.queue j hj;rw[this]at e
       cases e)
     clear hbq;go_wp2_with (go_at_call 75;refine HQC.out.mono ?_;rintro e w9 ⟨rfl,rfl⟩);go_ret
     exact⟨HRES.out,B3.out.trans (BE.out.mono hwz)⟩
    obtain⟨lb,lo,rfl,hlb,hlc⟩:=HCr.out.at_ hk0;obtain⟨c0,_⟩:=hlc 0 (by omega);obtain⟨r0,r1⟩:=HC.out.rng 0 (by omega);have dkb:decide (0 < k)=true:=by simp;omega
    have cell:=fun(b o:Nat) (v:Value) (hb:b < wr.heap.size) (hv:wr.cell? ⟨b,o,none⟩=some v)=>(fun(e:fQ wr)=>e.cell hv hb)
    have u0:=cell _ _ _ hzr y0;have u1:=cell _ _ _ hzr y1;have u2:=cell _ _ _ hzr y2;have u3:=cell _ _ _ hzr y3;have u4:=cell _ _ _ hlb c0;simp only[Nat.zero_mul,Nat.add_zero]at u4;have hx1:=(HALL.out 0 (by omega)).2.1;have HX0:=zh (show ∀x,x=ct 0->bi nx us-ct 0=N-x from fun x hx=>by rw[hx,HN.out]);obtain⟨x,hx⟩:=af (ct 0)
    rw[<-hx]at r0 r1 u4 hx1;have HXX:=zh (HX0.out x hx);have tw:IntKind.u64.wrap x=x:=by simp[IntKind.wrap_u64];omega
    have ts:IntKind.u64.wrap (N-x)=N-x:=by simp[IntKind.wrap_u64];omega
    have hk0':0 < k:=by omega
    have HQ3:=zh y3;clear hlc c0 cell hx hk0 y0 y1 y2 y3;go_upto_region 9 with (fail)
    by_cases hw:(2048:Int) < N-x
    ·have HF:=zh (HNo.out fun h=>(by have:=h.window hk0';have e:=HXX.out;omega));refine bf (by kernel_rfl) (by kernel_rfl) ?_
     repeat (go_big_quiet_step (first
      | (go_at_call 37;exact Calls.ext_ofT (HNX.out _))))
     refine wpQuiet_nil ?_;rintro _ ⟨ex,rfl⟩;go_wp2;go_ret
     exact⟨HF.out,B3.out.trans ((BR.out.trans (ex.h.mono BR.out.size)).mono hwz)⟩
    refine bf (by kernel_rfl) (by kernel_rfl) ?_
    repeat (go_big_quiet_step (first
     | (go_at_call 37;exact Calls.ext_ofT (HNX.out _))))
    refine wpQuiet_nil ?_;rintro _ ⟨ex,rfl⟩;have hwin:bi nx us-ct 0<=2048:=by have e:=HXX.out;omega
    have HWIN:=zh hwin;have y3:=ex.cell (HQ3.out) hzr;have BE:=zh (BR.out.trans (ex.h.mono BR.out.size));have HQC:=zh (HQ.out _ (B3.out.trans (BE.out.mono hwz)));obtain⟨bq,hbq⟩:∃b,b=pG (fun k=>!gC (qn k)) mq:=⟨_,rfl⟩
    rw[<-hbq]at HQC;have HRES:=zh (show Ending.returned (.bool (!bq))=Ending.returned (.bool r)from by
     have hiff:=nB (fun k=>!gC (qn k)) mq;rw[<-hbq]at hiff
     cases bq
     ·exact HYes.out ⟨fun h=>(by
       rcases Classical.em (nx=0)with e | e
       ·exact e
       ·exact absurd ⟨h,e⟩ HUN.out),fun h=>(by
       cases ac
       ·exact absurd ⟨h,rfl⟩ HMA.out
       ·rfl),fun j hj=>(by rw[<-HN.out];exact HALL.out j hj),fun h=>HWIN.out,fun j hj=>(by
       rcases Bool.eq_false_or_eq_true (gC (qn j))with e | e
       ·exact e
       ·exact absurd (hiff.2 ⟨j,hj,by rw[e];rfl⟩) (by decide))⟩
     ·refine HNo.out fun h=>?_;obtain⟨j,hj,e⟩:=hiff.1 rfl;have:=h.queue j hj;rw[this]at e
      cases e)
    clear hbq;go_wp2_with (go_at_call 75;refine HQC.out.mono ?_;rintro e w9 ⟨rfl,rfl⟩);go_ret
    exact⟨HRES.out,B3.out.trans (BE.out.mono hwz)⟩
end Go.Proofs.YtiiojpnckbglcaaGreat
namespace Go.Proofs.YtiiojpnckbglcaaGreat
open Go.RowKit
theorem cu {w:World} {a b:Nat} {x y:Array Value} {t u:TypeId} {f g:Nat×Nat} (ha:w.heap[a]? = some (.cells x t f)) (hb:w.heap[b]? = some (.cells y u g)) (h:t ≠ u):a ≠ b:=by
 rintro rfl;rw[ha]at hb;injection hb with hb
 injection hb with _ h2
 exact h h2
theorem mv {w:World} {a b:Nat} {x:Array Value} {t:TypeId} {f:Nat×Nat} {es:Array MapEntry} {c:Nat} (ha:w.heap[a]? = some (.cells x t f)) (hb:w.heap[b]? = some (.map es c)):a ≠ b:=by
 rintro rfl;rw[ha]at hb
 cases hb
theorem SL.obj {w:World} {e:TypeId} {sz:Nat} {A:Option Addr} {n c:Nat} {xs:List Value} (h:SL w e sz A n c xs) {a:Addr} (ha:A=some a):∃cur,w.heap[a.block]? = some (.cells cur e (0,0)):=by
 rcases h.at_ with ⟨h1,_⟩ | ⟨b,o,cur,h1,h2,_⟩
 ·rw[h1]at ha;cases ha
 ·rw[h1]at ha;cases ha
  exact⟨cur,h2⟩
section
variable {w w1 w':World} {g:Nat} {s:TS} {W R R' F:Nat->Prop} {qA qA':Option Addr} {qc qc':Nat} {lq lq':List WE} {pA pA':Option Addr} {pc pc':Nat} {lp lp':List PE} {ub cb:Nat}
theorem bN.gq (h:bN w g s W R qA qc lq pA pc lp ub cb) (a:Addr) (ha:qA=some a):g ≠ a.block:=by
 obtain⟨cur,hc⟩:=h.q.obj ha
 exact cu h.blk hc (by decide)
theorem bN.gp (h:bN w g s W R qA qc lq pA pc lp ub cb) (a:Addr) (ha:pA=some a):g ≠ a.block:=by
 obtain⟨cur,hc⟩:=h.p.obj ha
 exact cu h.blk hc (by decide)
theorem bN.qp (h:bN w g s W R qA qc lq pA pc lp ub cb) (a b:Addr) (ha:qA=some a) (hb:pA=some b):a.block ≠ b.block:=by
 obtain⟨cur,hc⟩:=h.q.obj ha;obtain⟨cur',hc'⟩:=h.p.obj hb
 exact cu hc hc' (by decide)
theorem bN.gu (h:bN w g s W R qA qc lq pA pc lp ub cb):g ≠ ub:=by
 obtain⟨es,c,h1,_⟩:=h.u
 exact mv h.blk h1
theorem bN.qu (h:bN w g s W R qA qc lq pA pc lp ub cb) (a:Addr) (ha:qA=some a):a.block ≠ ub:=by
 obtain⟨es,c,h1,_⟩:=h.u;obtain⟨cur,hc⟩:=h.q.obj ha
 exact mv hc h1
theorem bN.pu (h:bN w g s W R qA qc lq pA pc lp ub cb) (a:Addr) (ha:pA=some a):a.block ≠ ub:=by
 obtain⟨es,c,h1,_⟩:=h.u;obtain⟨cur,hc⟩:=h.p.obj ha
 exact mv hc h1
theorem bN.moreR (h:bN w g s W R qA qc lq pA pc lp ub cb) (hR:∀k,R k->R' k) (hd:∀k,W k->R' k->False) (hr:∀k,R' k->k < w.heap.size):bN w g s W R' qA qc lq pA pc lp ub cb:=
 ⟨h.blk,h.qv,h.pv,h.q,h.p,h.u,h.k,fun e he=>(h.qe e he).mono hR,fun e he=>(h.pe e he).mono hR,h.pr,h.wg,h.wu,h.wc,h.wq,h.wp,h.kg,h.ku,h.kq,h.kp,hd,h.win,hr,h.now0,h.next0⟩
theorem bN.setNow (h:bN w g s W R qA qc lq pA pc lp ub cb) (x:Int) (hx:0<=x/\x < 1073741824):bN (w.setCell ⟨g,40,none⟩ (.int .i64 x)) g { s with now:=x } W R qA qc lq pA pc lp ub cb:=by
 have hk:aa (fun k=>k=g) w (w.setCell ⟨g,40,none⟩ (.int .i64 x)):=(aa.refl (F:=fun k=>k=g)).setCell (p:=⟨g,40,none⟩) rfl _;refine⟨?_,h.qv,h.pv,h.q.keepF hk (fun a e h2=>h.gq a e h2.symm),h.p.keepF hk (fun a e h2=>h.gp a e h2.symm),h.u.keep (hk.block _ h.u.lt (fun e=>h.gu e.symm)),(hk.block _ (h.win _ h.wc) h.kg).trans h.k,
  fun e he=>(h.qe e he).keep hk (fun k e2 hr=>h.dis k (e2 ▸ h.wg) hr),fun e he=>(h.pe e he).keep hk (fun k e2 hr=>h.dis k (e2 ▸ h.wg) hr),h.pr,h.wg,h.wu,h.wc,h.wq,h.wp,h.kg,h.ku,h.kq,h.kp,h.dis,fun k hw=>bg (h.win k hw) hk.size,fun k hw=>bg (h.rin k hw) hk.size,hx,h.next0⟩
 have:=h.blk.set_ 40 (.int .i64 x)
 rwa [t8 s.C.arr_size]at this
theorem bN.setNext (h:bN w g s W R qA qc lq pA pc lp ub cb) (x:Int) (hx:0<=x/\x<=4294967296):bN (w.setCell ⟨g,41,none⟩ (.int .u64 x)) g { s with next:=x } W R qA qc lq pA pc lp ub cb:=by
 have hk:aa (fun k=>k=g) w (w.setCell ⟨g,41,none⟩ (.int .u64 x)):=(aa.refl (F:=fun k=>k=g)).setCell (p:=⟨g,41,none⟩) rfl _;refine⟨?_,h.qv,h.pv,h.q.keepF hk (fun a e h2=>h.gq a e h2.symm),h.p.keepF hk (fun a e h2=>h.gp a e h2.symm),h.u.keep (hk.block _ h.u.lt (fun e=>h.gu e.symm)),(hk.block _ (h.win _ h.wc) h.kg).trans h.k,
  fun e he=>(h.qe e he).keep hk (fun k e2 hr=>h.dis k (e2 ▸ h.wg) hr),fun e he=>(h.pe e he).keep hk (fun k e2 hr=>h.dis k (e2 ▸ h.wg) hr),h.pr,h.wg,h.wu,h.wc,h.wq,h.wp,h.kg,h.ku,h.kq,h.kp,h.dis,fun k hw=>bg (h.win k hw) hk.size,fun k hw=>bg (h.rin k hw) hk.size,h.now0,hx⟩
 have:=h.blk.set_ 41 (.int .u64 x)
 rwa [ru s.C.arr_size]at this
theorem bN.setP (h:bN w g s W R qA qc lq pA pc lp ub cb) (hk:aa (fun k=>∃a,pA=some a/\k=a.block) w w1) (hn:∀a,pA'=some a->(∃a',pA=some a'/\a.block=a'.block)\/w.heap.size<=a.block) (hs:SL w1 94 3 pA' lp'.length pc' (lp'.flatMap PE.cells))
  (he:∀e,e∈lp'->ci w1 R e.A e.v.n e.c e.v.z) (pr:∀e,e∈lp'->0<=e.v.ct/\e.v.ct < 4294967296) :
  bN (w1.setCell ⟨g,43,none⟩ (.slice pA' lp'.length pc')) g { s with P:=lp'.map (·.v) } (fun k=>W k\/∃a,pA'=some a/\k=a.block) R qA qc lq pA' pc' lp' ub cb:=by
 have hg:aa (fun k=>k=g) w1 (w1.setCell ⟨g,43,none⟩ (.slice pA' lp'.length pc')):=(aa.refl (F:=fun k=>k=g)).setCell (p:=⟨g,43,none⟩) rfl _;have hgl:=h.blk.lt;have hg1:ae w1 g _ _:=hk.blk h.blk (fun⟨a,ha,e⟩=>h.gp a ha e);have hgx:∀a,pA'=some a->¬a.block=g:=fun a ha e=>by
  rcases hn a ha with ⟨a',ha',e'⟩ | hge
  ·exact h.gp a' ha' (by omega)
  ·omega
 have hs1:∀a,qA=some a->¬∃b,pA=some b/\a.block=b.block:=fun a ha ⟨b,hb,e⟩=>h.qp a b ha hb e;have hcx:∀a,pA'=some a->cb ≠ a.block:=fun a ha e=>by
  rcases hn a ha with ⟨a',ha',e'⟩ | hge
  ·exact h.kp a' ha' (by omega)
  ·have:=h.win _ h.wc;omega
 have hsz:w.heap.size<=w1.heap.size:=hk.size;have hu1:=hk.block ub h.u.lt (fun⟨a,ha,e⟩=>h.pu a ha e.symm);have hc1:=hk.block cb (h.win _ h.wc) (fun⟨a,ha,e⟩=>h.kp a ha e);have pk:∀{A:Option Addr} {n c:Nat} {z:Nat->Int},ci w R A n c z->ci w1 R A n c z:=fun hp=>hp.keep hk (fun k ⟨a,ha,e⟩ hr=>h.dis k (by rw[e];exact h.wp a ha) hr);have pg:∀{A:Option Addr} {n c:Nat} {z:Nat->Int},ci w1 R A n c z->ci (w1.setCell ⟨g,43,none⟩ (.slice pA' lp'.length pc')) R A n c z:=fun hp=>hp.keep hg (fun k e hr=>h.dis k (by rw[e];exact h.wg) hr);refine⟨?_,h.qv,rfl,(h.q.keepF hk hs1).keepF hg (fun a e h2=>h.gq a e h2.symm),hs.keepF hg hgx,
  (h.u.keep hu1).keep (hg.block _ (bg h.u.lt hsz) (fun e=>h.gu e.symm)),(hg.block _ (bg (h.win _ h.wc) hsz) h.kg).trans (hc1.trans h.k),
  fun e he2=>pg (pk (h.qe e he2)),fun e he2=>pg (he e he2),(fun e he=>(by obtain⟨x,hx,rfl⟩:=List.mem_map.1 he;exact pr x hx)),.inl h.wg,.inl h.wu,.inl h.wc,
  fun a e=>.inl (h.wq a e),fun a e=>.inr ⟨a,e,rfl⟩,h.kg,h.ku,h.kq,hcx,
  fun k hw hr=>?_,fun k hw=>?_,fun k hr=>bg (bg (h.rin k hr) hsz) hg.size,h.now0,h.next0⟩
 ·have:=hg1.set_ 43 (.slice pA' lp'.length pc')
  rwa [xI s.C.arr_size]at this
 ·rcases hw with hw | ⟨a,ha,rfl⟩
  ·exact h.dis k hw hr
  ·rcases hn a ha with ⟨a',ha',e'⟩ | hge
   ·exact h.dis _ (by rw[e'];exact h.wp a' ha') hr
   ·have:=h.rin _ hr;omega
 ·rcases hw with hw | ⟨a,ha,rfl⟩
  ·exact bg (bg (h.win k hw) hsz) hg.size
  ·exact bg (hs.lt ha) hg.size
theorem bN.setQ (h:bN w g s W R qA qc lq pA pc lp ub cb) (hk:aa (fun k=>∃a,qA=some a/\k=a.block) w w1) (hn:∀a,qA'=some a->(∃a',qA=some a'/\a.block=a'.block)\/w.heap.size<=a.block) (hs:SL w1 96 2 qA' lq'.length qc' (lq'.flatMap WE.cells))
  (he:∀e,e∈lq'->ci w1 R e.A e.v.n e.c e.v.z)  :
  bN (w1.setCell ⟨g,42,none⟩ (.slice qA' lq'.length qc')) g { s with Q:=lq'.map (·.v) } (fun k=>W k\/∃a,qA'=some a/\k=a.block) R qA' qc' lq' pA pc lp ub cb:=by
 have hg:aa (fun k=>k=g) w1 (w1.setCell ⟨g,42,none⟩ (.slice qA' lq'.length qc')):=(aa.refl (F:=fun k=>k=g)).setCell (p:=⟨g,42,none⟩) rfl _;have hgl:=h.blk.lt;have hg1:ae w1 g _ _:=hk.blk h.blk (fun⟨a,ha,e⟩=>h.gq a ha e);have hgx:∀a,qA'=some a->¬a.block=g:=fun a ha e=>by
  rcases hn a ha with ⟨a',ha',e'⟩ | hge
  ·exact h.gq a' ha' (by omega)
  ·omega
 have hs1:∀a,pA=some a->¬∃b,qA=some b/\a.block=b.block:=fun a ha ⟨b,hb,e⟩=>h.qp b a hb ha e.symm;have hcx:∀a,qA'=some a->cb ≠ a.block:=fun a ha e=>by
  rcases hn a ha with ⟨a',ha',e'⟩ | hge
  ·exact h.kq a' ha' (by omega)
  ·have:=h.win _ h.wc;omega
 have hsz:w.heap.size<=w1.heap.size:=hk.size;have hu1:=hk.block ub h.u.lt (fun⟨a,ha,e⟩=>h.qu a ha e.symm);have hc1:=hk.block cb (h.win _ h.wc) (fun⟨a,ha,e⟩=>h.kq a ha e);have pk:∀{A:Option Addr} {n c:Nat} {z:Nat->Int},ci w R A n c z->ci w1 R A n c z:=fun hp=>hp.keep hk (fun k ⟨a,ha,e⟩ hr=>h.dis k (by rw[e];exact h.wq a ha) hr);have pg:∀{A:Option Addr} {n c:Nat} {z:Nat->Int},ci w1 R A n c z->ci (w1.setCell ⟨g,42,none⟩ (.slice qA' lq'.length qc')) R A n c z:=fun hp=>hp.keep hg (fun k e hr=>h.dis k (by rw[e];exact h.wg) hr);refine⟨?_,rfl,h.pv,hs.keepF hg hgx,(h.p.keepF hk hs1).keepF hg (fun a e h2=>h.gp a e h2.symm),
  (h.u.keep hu1).keep (hg.block _ (bg h.u.lt hsz) (fun e=>h.gu e.symm)),(hg.block _ (bg (h.win _ h.wc) hsz) h.kg).trans (hc1.trans h.k),
  fun e he2=>pg (he e he2),fun e he2=>pg (pk (h.pe e he2)),h.pr,.inl h.wg,.inl h.wu,.inl h.wc,
  fun a e=>.inr ⟨a,e,rfl⟩,fun a e=>.inl (h.wp a e),h.kg,h.ku,hcx,h.kp,
  fun k hw hr=>?_,fun k hw=>?_,fun k hr=>bg (bg (h.rin k hr) hsz) hg.size,h.now0,h.next0⟩
 ·have:=hg1.set_ 42 (.slice qA' lq'.length qc')
  rwa [xt s.C.arr_size]at this
 ·rcases hw with hw | ⟨a,ha,rfl⟩
  ·exact h.dis k hw hr
  ·rcases hn a ha with ⟨a',ha',e'⟩ | hge
   ·exact h.dis _ (by rw[e'];exact h.wq a' ha') hr
   ·have:=h.rin _ hr;omega
 ·rcases hw with hw | ⟨a,ha,rfl⟩
  ·exact bg (bg (h.win k hw) hsz) hg.size
  ·exact bg (hs.lt ha) hg.size
end
end Go.Proofs.YtiiojpnckbglcaaGreat
namespace Go.Proofs.YtiiojpnckbglcaaGreat
open Go.RowKit
attribute [local go_sem ↓] Go.wp_at_zero Go.wp_at_succ
def aw (f:Nat->Int):Array Value:=#[.int .u8 (f 0),.int .u8 (f 1),.int .u8 (f 2),.int .u8 (f 3),.int .u8 (f 4),.int .u8 (f 5),.int .u8 (f 6),.int .u8 (f 7),.int .u8 (f 8),.int .u8 (f 9),.int .u8 (f 10),.int .u8 (f 11),.int .u8 (f 12),.int .u8 (f 13),.int .u8 (f 14),.int .u8 (f 15)]
theorem qR (f:Nat->Int):∀j,j < 16->(aw f)[j]? = some (.int .u8 (f j)):=fun j hj=>by
 rcases (by omega:j=0\/j=1\/j=2\/j=3\/j=4\/j=5\/j=6\/j=7\/j=8\/j=9\/j=10\/j=11\/j=12\/j=13\/j=14\/j=15)with rfl | rfl | rfl | rfl | rfl | rfl | rfl | rfl | rfl | rfl | rfl | rfl | rfl | rfl | rfl | rfl<;>rfl
def eG (c:aZ):Array Value:=#[.int .i64 c.b,.int .i64 c.d,.int .u8 (c.key 0),.int .u8 (c.key 1),.int .u8 (c.key 2),.int .u8 (c.key 3),.int .u8 (c.key 4),.int .u8 (c.key 5),.int .u8 (c.key 6),.int .u8 (c.key 7),.int .u8 (c.key 8),.int .u8 (c.key 9),.int .u8 (c.key 10),.int .u8 (c.key 11),.int .u8 (c.key 12),.int .u8 (c.key 13),.int .u8 (c.key 14),.int .u8 (c.key 15),.int .u8 (c.code 0),.int .u8 (c.code 1),.int .u8 (c.code 2),.int .u8 (c.code 3),.int .u8 (c.code 4),.int .u8 (c.code 5),.int .u8 (c.code 6),.int .u8 (c.code 7),.int .u8 (c.code 8),.int .u8 (c.code 9),.int .u8 (c.code 10),.int .u8 (c.code 11),.int .u8 (c.code 12),.int .u8 (c.code 13),.int .u8 (c.code 14),.int .u8 (c.code 15),.bool c.ig,.bool c.cm,.bool c.ac,.int .i64 c.ds,.int .i64 c.ro]
theorem iR (c:aZ):c.arr=eG c:=by kernel_rfl
theorem wH (f:Nat->Int) (W:World):(Instr.checkKey false 10000 23 (.agg (aw f))).run Tryz.prog W=.ok () W:=by kernel_rfl
theorem bW (f:Nat->Int) (W:World) (m:Nat) (h:W.heap[m]? = some (.map #[] 0)):(Instr.mapUpdate 85 (.map (some m)) (.agg (aw f)) (.bool true)).run Tryz.prog W=.ok () (W.putObj m (.map #[{ key:=.agg (aw f),val:=.bool true,born:=0 }] 1)):=by
 have hf:∀W:World,(Instr.findKey 23 (.agg (aw f)) []).run Tryz.prog W=.ok none W:=fun W=>by
  simp[Instr.findKey,run_underlying Tryz.underlying23,Instr.findNow,Result.andThen]
 simp[Instr.mapUpdate,run_underlying Tryz.underlying85,MapKept.run_getObj_map h,wH,hf,MapKept.run_setObj_map _ h,Result.andThen,World.putObj]
def yT (k:Nat):Value:=if k=3\/k=9\/k=12 then .bool false else if k=10 then .int .u8 0 else .int .i64 0
def yD:Array Value:=Array.ofFn (n:=226) fun j=>if j.1=0 then .bool false else if j.1=225 then .int .i64 0 else yT ((j.1-1) % 14)
theorem wd (w:World):(zeroValue 137).run Tryz.prog w=.ok (.agg yD) w:=by kernel_rfl
theorem oy:yD.size=226:=by kernel_rfl
theorem xO:¬yD=#[]:=fun e=>by have:=oy;rw[e]at this;cases this
def i6:Obj:=.cells (yD.setIfInBounds 0 (.bool true)) 137
theorem eX (w:World):Calls Tryz.prog 38 #[] w fun e w'=>e=.returned (.pointer (some ⟨w.heap.size,0,none⟩))/\w.alloc i6=w':=by
 have hr:=wd;have hn:=xO;have hs:=oy;go_enter Tryz.func38,Tryz.ntmps38;go_wp2;go_ret
 exact⟨rfl,rfl⟩
def ee (mq:Nat) (qn:Nat->Nat) (y:Nat->Nat->Int):List QV:=(List.range mq).map fun k=>⟨qn k,y k,0⟩
def cz (m:Nat) (ct:Nat->Int) (pn:Nat->Nat) (z:Nat->Nat->Int):List PV:=(List.range m).map fun k=>⟨ct k,pn k,z k,true⟩
def eB (cf:aZ) (N:Int) (m:Nat) (ct:Nat->Int) (pn:Nat->Nat) (z:Nat->Nat->Int) (mq:Nat) (qn:Nat->Nat) (y:Nat->Nat->Int):TS:=⟨cf,0,N,ee mq qn y,cz m ct pn z,[aw cf.key],i6⟩
def yg (cf:aZ) (N:Int) (B:Nat) (w:World) (v:Value) (W:World):Prop:=
 ∃g ub cb,v=.pointer (some ⟨g,0,none⟩)/\bN W g (eB cf N 0 (fun _=>0) (fun _=>0) (fun _ _=>0) 0 (fun _=>0) (fun _ _=>0)) (fun k=>k=g\/k=ub\/k=cb) (fun _=>False) none 0 [] none 0 [] ub cb/\B<=g/\B<=ub/\B<=cb/\Below B w W
theorem pH (cf:aZ) (A A2:Option Addr) (m c1 mq c2:Nat) (nx:Int) (us:Bool) (ct:Nat->Int) (PA:Nat->Option Addr) (pn pc:Nat->Nat) (z:Nat->Nat->Int) (QA:Nat->Option Addr) (qn qc:Nat->Nat) (y:Nat->Nat->Int) (w:World) (hnx:0<=nx/\nx < 4294967296) (hm:m<=maxLen) (hmq:mq<=maxLen)
  (h:fC w A m ct PA pn pc z) (hq:dW w A2 mq QA qn qc y) (hno:¬(cf.Valid/\sR cf.ac nx us m ct pn mq qn)) :
  Calls Tryz.prog 10 #[.agg cf.arr,.agg #[.int .u32 nx,.bool us,.slice A m c1,.slice A2 mq c2]] w fun e w'=>e=.returned (.tuple #[.pointer none,.int .i64 2])/\Below w.heap.size w w':=by
 have HV:=zh (fun W=>bu cf W);have HW:=zh (fun(W:World) (hb:Below w.heap.size w W)=>j7 cf A A2 m c1 mq c2 nx us ct PA pn pc z QA qn qc y W hnx hm hmq (h.below hb) (hq.below hb));have HNO:=zh hno;have HS:Hid ((Tryz.prog.info? 25).map (·.size)=some cf.arr.size):=zh (by rw[cf.arr_size];exact aM);have HD:=zh (show decide cf.Valid=true↔cf.Valid from decide_eq_true_iff);obtain⟨V,hV⟩:=af (decide cf.Valid)
 obtain⟨Z,hZ⟩:=af cf.arr
 rw[<-hV]at HD HV;rw[<-hZ]at HS HV HW ⊢;have HU:=zh Tryz.underlying25;clear h hq hno hV hZ hnx hm hmq;go_enter Tryz.func10,Tryz.ntmps10;go_upto_region 1 with (fail)
 refine ag (fun W=>ae W w.heap.size 25 Z/\ae W (w.heap.size+1) 30 #[.int .u32 nx,.bool us,.slice A m c1,.slice A2 mq c2]/\Below w.heap.size w W) ⟨(ae.new _ _ _).alloc _,az _ _ _ _ (by simp),((Below.refl _ w).alloc ao _).alloc (by simp) _⟩ ?_;rintro W1 ⟨b1,b2,b3⟩;have B1:=zh b1;have B2:=zh b2;have B3:=zh b3;clear b1 b2 b3;rcases Bool.eq_false_or_eq_true V with hv | hv
 ·subst hv;have HF:=zh (fun(W:World) (hb:Below w.heap.size w W)=>HW.out W hb false ⟨fun h=>(by cases h),fun h=>absurd ⟨HD.out.1 rfl,h⟩ HNO.out⟩);go_wp2_with (first
   | (refine wpList_load_row rfl _ _ rfl w.heap.size rfl 25 Z (0,0) _ B1.out HU.out rfl HS.out ?_)
   | (go_at_call 35;refine(HV.out _).mono ?_;rintro e w2 ⟨rfl,hB⟩;have E2:=zh hB;have D2:=zh (av B3.out hB);have x0:=(B2.out.below hB B2.out.lt).cell 0;have x1:=(B2.out.below hB B2.out.lt).cell 1;have x2:=(B2.out.below hB B2.out.lt).cell 2;have x3:=(B2.out.below hB B2.out.lt).cell 3;have B4:=zh (B1.out.below hB B1.out.lt);simp at x0 x1 x2 x3;clear hB)
   | (refine eW (by rfl) _ _ rfl w.heap.size rfl 25 Z (0,0) _ B4.out HU.out rfl HS.out ?_)
   | (go_at_call 36;refine(HF.out _ D2.out).mono ?_;rintro e w3 ⟨rfl,hB⟩;have E3:=zh (av D2.out hB);clear hB))
  go_ret2
  exact⟨rfl,E3.out⟩
 ·subst hv;go_wp2_with (first
   | (refine wpList_load_row rfl _ _ rfl w.heap.size rfl 25 Z (0,0) _ B1.out HU.out rfl HS.out ?_)
   | (go_at_call 35;refine(HV.out _).mono ?_;rintro e w2 ⟨rfl,hB⟩;have D2:=zh (av B3.out hB);clear hB))
  refine bodyPost_ret (v:=.tuple #[.pointer none,.int .i64 2]) (results_tmp2 (t:=4) (u:=5) rfl _ _ _) rfl ?_
  exact⟨rfl,D2.out⟩
theorem m8:∃i:TypeInfo,Tryz.prog.info? 94 = some i/\i.zero=some (.agg #[.int .u32 0,.slice none 0 0,.bool false])/\i.size=3/\i.bytes=40:=by
 have h:(Tryz.prog.info? 94).map (fun i=>(i.zero,i.size,i.bytes))=some (some (.agg #[.int .u32 0,.slice none 0 0,.bool false]),3,40):=by kernel_rfl
 cases hi:Tryz.prog.info? 94 with
 | none=>rw[hi]at h;cases h
 | some i=>
  rw[hi]at h;simp only[Option.map_some,Option.some.injEq,Prod.mk.injEq]at h
  exact⟨i,rfl,h.1,h.2.1,h.2.2⟩
theorem jV:∃i:TypeInfo,Tryz.prog.info? 96 = some i/\i.zero=some (.agg #[.slice none 0 0,.int .i64 0])/\i.size=2/\i.bytes=32:=by
 have h:(Tryz.prog.info? 96).map (fun i=>(i.zero,i.size,i.bytes))=some (some (.agg #[.slice none 0 0,.int .i64 0]),2,32):=by kernel_rfl
 cases hi:Tryz.prog.info? 96 with
 | none=>rw[hi]at h;cases h
 | some i=>
  rw[hi]at h;simp only[Option.map_some,Option.some.injEq,Prod.mk.injEq]at h
  exact⟨i,rfl,h.1,h.2.1,h.2.2⟩
theorem bV (W:World) (m:Nat) (hm:m < W.heap.size) (f:Nat->Int):UK (W.putObj m (.map #[{ key:=.agg (aw f),val:=.bool true,born:=0 }] 1)) m [aw f]:=
 ⟨_,_,World.putObj_heap_same hm,rfl,fun e he=>by
  have:e={ key:=.agg (aw f),val:=.bool true,born:=0 }:=by simpa using he
  rw[this]⟩
theorem oo (cf:aZ) (N:Int) (hN:0<=N/\N<=4294967296) (W:World) (g ub cb:Nat) (hB:ae W g 91 (ft cf.arr true 0 N (.slice none 0 0) (.slice none 0 0) ub cb)) (hu:UK W ub [aw cf.key]) (hc:W.heap[cb]? = some i6) (h1:cb ≠ g) (h2:cb ≠ ub) :
  bN W g (eB cf N 0 (fun _=>0) (fun _=>0) (fun _ _=>0) 0 (fun _=>0) (fun _ _=>0)) (fun k=>k=g\/k=ub\/k=cb) (fun _=>False) none 0 [] none 0 [] ub cb:=
 ⟨hB,rfl,rfl,SL.nil _ _ _,SL.nil _ _ _,hu,hc,fun e he=>(by cases he),fun e he=>(by cases he),fun e he=>(by cases he),.inl rfl,.inr (.inl rfl),.inr (.inr rfl),fun a e=>(by cases e),fun a e=>(by cases e),h1,h2,fun a e=>(by cases e),fun a e=>(by cases e),
  fun k _ hr=>hr,fun k hk=>(by
   rcases hk with rfl | rfl | rfl
   ·exact hB.lt
   ·exact hu.lt
   ·exact(Array.getElem?_eq_some_iff.1 hc).1),fun k hr=>hr.elim,⟨by show(0:Int)<=0;decide,by show(0:Int) < 1073741824;decide⟩,hN⟩
theorem rA (k:Nat) (ct:Nat->Int) (pn:Nat->Nat) (z:Nat->Nat->Int):cz (k+1) ct pn z=cz k ct pn z++[⟨ct k,pn k,z k,true⟩]:=by
 unfold cz;rw[List.range_succ,List.map_append]
 rfl
theorem sA (k:Nat) (qn:Nat->Nat) (y:Nat->Nat->Int):ee (k+1) qn y=ee k qn y++[⟨qn k,y k,0⟩]:=by
 unfold ee;rw[List.range_succ,List.map_append]
 rfl
theorem tX (k:Nat) (ct:Nat->Int) (pn:Nat->Nat) (z:Nat->Nat->Int):(cz k ct pn z).length=k:=by simp[cz]
theorem tC (k:Nat) (qn:Nat->Nat) (y:Nat->Nat->Int):(ee k qn y).length=k:=by simp[ee]
theorem aa.more {F:Nat->Prop} {w w1 w2:World} (h:aa F w w1) (hb:Below w1.heap.size w1 w2):aa F w w2:=h.trans (G:=fun _=>False) (aa.of_below hb) (fun _ _ h=>h.elim)
theorem ci.of_clone {w':World} {A:Option Addr} {n c:Nat} {z:Nat->Int} {R:Nat->Prop} (h1:1<=n) (h9:n<=9000) (hc:n<=c) (hz:∀j,j < n->0<=z j/\z j < 256) (hr:au w' w'.heap.size A n (fun j=>.int .u8 (z j))):ci w' (fun k=>R k\/∃a,A=some a/\k=a.block) A n c z:=
 ⟨h1,h9,hc,hz,hr,fun a e=>.inr ⟨a,e,rfl⟩⟩
theorem db {w:World} {B n:Nat} {A:Option Addr} {v:Nat->Value} (hr:au w B A n v) (h1:1<=n) {a:Addr} (e:A=some a):a.block < B:=by
 obtain⟨b,off,e2,hb,_⟩:=hr (by omega);rw[e]at e2;cases e2
 exact hb
theorem iB (n:Nat):gC n=true↔1<=n/\n<=9000:=by unfold gC;rw[decide_eq_true_iff]
structure RL (cf:aZ) (N:Int) (B:Nat) (w:World) (g ub cb:Nat) (m:Nat) (ct:Nat->Int) (pn:Nat->Nat) (z:Nat->Nat->Int) (mq:Nat) (qn:Nat->Nat) (y:Nat->Nat->Int) (W R:Nat->Prop) (qA:Option Addr) (qc:Nat) (lq:List WE) (pA:Option Addr) (pc:Nat) (lp:List PE) (w':World):Prop where
 t:bN w' g (eB cf N m ct pn z mq qn y) W R qA qc lq pA pc lp ub cb
 wB:∀k,W k->B<=k
 rB:∀k,R k->B<=k
 b:Below B w w'
theorem gO (cf:aZ) (A A2:Option Addr) (m c1 mq c2:Nat) (nx:Int) (us:Bool) (ct:Nat->Int) (PA:Nat->Option Addr) (pn pc:Nat->Nat) (z:Nat->Nat->Int) (QA:Nat->Option Addr) (qn qc:Nat->Nat) (y:Nat->Nat->Int) (w:World) (hnx:0<=nx/\nx < 4294967296) (hm:m<=1000000) (hmq:mq<=1000000)
  (h:fC w A m ct PA pn pc z) (hq:dW w A2 mq QA qn qc y) (hcv:cf.Valid) (hfo:sR cf.ac nx us m ct pn mq qn) :
  Calls Tryz.prog 10 #[.agg cf.arr,.agg #[.int .u32 nx,.bool us,.slice A m c1,.slice A2 mq c2]] w fun e w'=>∃g W R,e=.returned (.tuple #[.pointer (some ⟨g,0,none⟩),.int .i64 0])/\dK w' g (eB cf (bi nx us) m ct pn z mq qn y) W R/\(∀k,W k->w.heap.size<=k)/\(∀k,R k->w.heap.size<=k)/\Below w.heap.size w w':=by
 have HV:=zh (fun W=>bu cf W);have HW:=zh (fun(W:World) (hb:Below w.heap.size w W)=>j7 cf A A2 m c1 mq c2 nx us ct PA pn pc z QA qn qc y W hnx (by unfold maxLen;omega) (by unfold maxLen;omega) (h.below hb) (hq.below hb) true ⟨fun _=>hfo,fun _=>rfl⟩);have HNX:=zh (fun(W:World)=>nr nx us (.slice A m c1) (.slice A2 mq c2) W hnx);have HC:=zh h;have HQ:=zh hq;have HFO:=zh hfo;have hd:decide cf.Valid=true:=decide_eq_true hcv;rw[hd]at HV;have HS:Hid ((Tryz.prog.info? 25).map (·.size)=some cf.arr.size):=zh (by rw[cf.arr_size];exact aM);have HKR0:=zh (show ∀j,j < 16->cf.arr[2+j]? = (aw cf.key)[j]? from fun j hj=>by
  rw[cf.arr_at (by omega),qR _ j hj];unfold aZ.cell;rw[if_neg (by omega),if_neg (by omega),if_pos (by omega),show 2+j-2=j by omega])
 obtain⟨N,hN⟩:=af (bi nx us)
 have HNR:=zh (show 0<=N/\N<=4294967296 from by rw[hN];unfold bi;split<;>omega);rw[<-hN]at HNX ⊢;have HNN:=zh hN;have HZE:=zh (iR cf);obtain⟨Z,hZ⟩:=af cf.arr
 rw[<-hZ]at HS HV HW HKR0 HZE ⊢;have HZZ:=zh hZ;have HU:=zh Tryz.underlying25;have HUK:=zh Tryz.underlying23;have hmm:=@run_makeMap Tryz.prog;clear h hq hfo hcv hd hZ hN hnx;go_enter Tryz.func10,Tryz.ntmps10;go_upto_region 1 with (fail)
 refine ag (fun W=>ae W w.heap.size 25 Z/\ae W (w.heap.size+1) 30 #[.int .u32 nx,.bool us,.slice A m c1,.slice A2 mq c2]/\Below w.heap.size w W) ⟨(ae.new _ _ _).alloc _,az _ _ _ _ (by simp),((Below.refl _ w).alloc ao _).alloc (by simp) _⟩ ?_;rintro W1 ⟨b1,b2,b3⟩;have B1:=zh b1;have B2:=zh b2;have B3:=zh b3;clear b1 b2 b3;go_upto_region 3 with (first
  | (refine wpList_load_row rfl _ _ rfl w.heap.size rfl 25 Z (0,0) _ B1.out HU.out rfl HS.out ?_)
  | (go_at_call 35;refine(HV.out _).mono ?_;rintro e w2 ⟨rfl,hB⟩;have E2:=zh hB;have D2:=zh (av B3.out hB);have x0:=(B2.out.below hB B2.out.lt).cell 0;have x1:=(B2.out.below hB B2.out.lt).cell 1;have x2:=(B2.out.below hB B2.out.lt).cell 2;have x3:=(B2.out.below hB B2.out.lt).cell 3;have B4:=zh (B1.out.below hB B1.out.lt);simp at x0 x1 x2 x3;clear hB)
  | (refine eW (by rfl) _ _ rfl w.heap.size rfl 25 Z (0,0) _ B4.out HU.out rfl HS.out ?_)
  | (go_at_call 36;refine(HW.out _ D2.out).mono ?_;rintro e w3 ⟨rfl,hB⟩;have E3:=zh (av E2.out hB);have D3:=zh (av D2.out hB);clear hB))
 have BZ:=zh (B1.out.below E3.out B1.out.lt);have BS:=zh (B2.out.below E3.out B2.out.lt);obtain⟨zb,hzb⟩:=af w.heap.size
 obtain⟨Bn,hBn⟩:=af w3.heap.size
 rw[<-hzb]at BZ BS x0 x1 x2 x3 ⊢;have HZB:=zh hzb;have hzl:zb+1 < Bn:=by rw[hBn];exact BS.out.lt
 have hbw:w.heap.size<=Bn:=by rw[hBn];exact D3.out.size
 have HZR:=zh (show ∀W,Below Bn w3 W->W.rangeAt zb 0 (eG cf).toList from fun W hW=>((BZ.out.below hW (by omega)).range _ (by rw[HZE.out])));have HKR:=zh (show ∀W,Below Bn w3 W->W.rangeAt zb 2 (aw cf.key).toList from fun W hW j v hv=>by
  have hj:j < 16:=by have:=(List.getElem?_eq_some_iff.1 hv).1;simpa[aw]using this
  rw[(BZ.out.below hW (by omega)).cell (2+j),HKR0.out j hj];simpa using hv)
 have HSR:=zh (show ∀W,Below Bn w3 W->W.cell? ⟨zb+1,0,none⟩=some (.int .u32 nx)/\W.cell? ⟨zb+1,1,none⟩=some (.bool us)/\W.cell? ⟨zb+1,2,none⟩=some (.slice A m c1)/\W.cell? ⟨zb+1,3,none⟩=some (.slice A2 mq c2)from fun W hW=>⟨(BS.out.below hW hzl).cell 0,(BS.out.below hW hzl).cell 1,(BS.out.below hW hzl).cell 2,(BS.out.below hW hzl).cell 3⟩);have HS39:Hid ((Tryz.prog.info? 25).map (·.size)=some (eG cf).toList.length):=zh aM;have HS16:Hid ((Tryz.prog.info? 23).map (·.size)=some (aw cf.key).toList.length):=zh (by kernel_rfl);clear x0 x1 x2 x3 hzb;go_cut [6]from 20 to 29 (fun v wx=>yg cf N Bn w3 v wx)
 case first=>
  obtain⟨w0,hw0⟩:=af w3.drew
  have hb0:Below Bn w3 w0:=by rw[hw0,hBn];exact(Below.refl _ w3).drew
  have hz0:Bn<=w0.heap.size:=by rw[hw0,hBn];exact Nat.le_refl _
  refine wp_region_held_drew (S:=fun w'=>Below Bn w3 w') (by kernel_rfl) (by rw[<-hw0];exact hb0) (fun hHeld=>?_);rw[<-hw0];clear hw0 hHeld;have hHeld:=hb0;refine' ed (i:=0) (x:=some 20) (v:=_) rfl (yieldsIf_load_mid (by rfl) _ _ rfl zb 0 rfl (eG cf).toList _ (fun w h=>HZR.out w h) HU.out rfl HS39.out) ?_;refine ed (i:=1) (x:=some 21) (v:=.agg #[.int .u32 nx,.bool us,.slice A m c1,.slice A2 mq c2]) rfl (.inl ⟨by rfl,fun W hW=>(by obtain⟨u0,u1,u2,u3⟩:=HSR.out W hW;go_simp)⟩) ?_;refine bF (i:=4) (x:=some 24) (v:=.pointer (some ⟨zb,2,none⟩)) rfl ?_;refine' ed (i:=5) (x:=some 25) (v:=_) rfl (yieldsIf_load_mid (by rfl) _ _ rfl zb 2 rfl (aw cf.key).toList _ (fun w h=>HKR.out w h) HUK.out rfl HS16.out) ?_;refine wpAnyH_ready (rs:=[2,3]) (by kernel_rfl) (by simp) ?_;refine AllReadyH.cons (o:=⟨some 22,_,_,_,_,_⟩) rfl (fun K hK=>?_) (AllReadyH.cons (o:=⟨some 23,_,_,_,_,_⟩) rfl (fun K hK=>?_) AllReadyH.nil)
  focus
   rw[if_pos (by rfl)];go_simp;refine(HNX.out w0).mono ?_;rintro e w1' ⟨rfl,hbk⟩;dsimp only;have hH2:Below Bn w3 w1':=hHeld.trans (hbk.mono hz0);have hz1:Bn<=w1'.heap.size:=ba hz0 hbk.size;clear hbk;refine hK.out _ _ hH2 (fun hHeld=>?_);clear hK K hH2
   try simp only[Act.put,qa,qb,qc]
   refine wpAnyH_ready (rs:=[3,8]) (by kernel_rfl) (by simp) ?_;refine AllReadyH.cons (o:=⟨some 23,_,_,_,_,_⟩) rfl (fun K hK=>?_) (AllReadyH.cons (o:=⟨some 27,_,_,_,_,_⟩) rfl (fun K hK=>?_) AllReadyH.nil)
   focus
    rw[if_pos (by rfl)];go_simp;obtain⟨w2',hv⟩:∃X,X=w1'.alloc (.map #[] 0):=⟨_,rfl⟩
    obtain⟨mU,hb⟩:=af w1'.heap.size
    have hH2:Below Bn w3 w2':=by rw[hv];exact hHeld.alloc hz1 _
    have hz2:Bn<=w2'.heap.size:=by rw[hv,World.size_alloc];omega
    have hbk:Below w1'.heap.size w1' w2':=by rw[hv];exact bM _
    have hM:w2'.heap[mU]? = some (.map #[] 0):=by rw[hv,hb];exact World.alloc_heap_new _ _
    have hMB:Bn<=mU:=by omega
    rw[<-hv,<-hb];clear hv hb hbk;refine hK.out _ _ hH2 (fun hHeld=>?_);clear hK K hH2
    try simp only[Act.put,qa,qb,qc]
    refine wpAnyH_ready (rs:=[6,8]) (by kernel_rfl) (by simp) ?_;refine AllReadyH.cons (o:=⟨none,_,_,_,_,_⟩) rfl (fun K hK=>?_) (AllReadyH.cons (o:=⟨some 27,_,_,_,_,_⟩) rfl (fun K hK=>?_) AllReadyH.nil)
    focus
     rw[if_pos (by rfl)];go_simp;have hpu:=bW cf.key w2' mU hM;rw[show(.agg (aw cf.key):Value)=.agg (aw cf.key).toList.toArray from rfl]at hpu;have hU:=bV w2' mU (Array.getElem?_eq_some_iff.1 hM).1 cf.key;have hkp:World.grownBy w2' (w2'.putObj mU (.map #[{ key:=.agg (aw cf.key),val:=.bool true,born:=0 }] 1)) (some mU):=grownBy_putObj' _ _ _;obtain⟨w3',hv⟩:∃X,X=w2'.putObj mU (.map #[{ key:=.agg (aw cf.key),val:=.bool true,born:=0 }] 1):=⟨_,rfl⟩
     rw[<-hv]at hkp hU;have hH2:Below Bn w3 w3':=aa.below hHeld (aa.of_row (F:=fun k=>k=mU) hkp rfl) (fun k e=>by rw[e];exact hMB) hz2;have hz3:Bn<=w3'.heap.size:=ba hz2 hkp.size;go_simp;rw[<-hv];clear hv hkp hpu hM;refine hK.out _ _ hH2 (fun hHeld=>?_);clear hK K hH2
     try simp only[Act.put,qa,qb,qc]
     refine dF (i:=7) (x:=some 26) (v:=.map (some mU)) rfl ?_;refine bc (i:=8) (x:=some 27) rfl fun K hK=>?_;go_simp;refine(eX w3').mono ?_;rintro e w4' ⟨rfl,hv⟩;obtain⟨cb,hb⟩:=af w3'.heap.size
     rw[<-hb];dsimp only;have hH2:Below Bn w3 w4':=by rw[<-hv];exact hHeld.alloc hz3 _
     have hz4:Bn<=w4'.heap.size:=by rw[<-hv,World.size_alloc];omega
     have hbk:Below w3'.heap.size w3' w4':=by rw[<-hv];exact bM _
     have hC:w4'.heap[cb]? = some i6:=by rw[<-hv,hb];exact World.alloc_heap_new _ _
     have hCB:Bn<=cb:=by omega
     have hcm:mU ≠ cb:=by have:=hU.lt;omega
     replace hU:=hU.keep (hbk.block mU hU.lt);clear hv hb hbk;refine hK.out _ _ hH2 (fun hHeld=>?_);clear hK K hH2
    rotate_left
    focus
     rw[if_pos (by rfl)];go_simp;refine(eX w2').mono ?_;rintro e w3' ⟨rfl,hv⟩;obtain⟨cb,hb⟩:=af w2'.heap.size
     rw[<-hb];dsimp only;have hH2:Below Bn w3 w3':=by rw[<-hv];exact hHeld.alloc hz2 _
     have hz3:Bn<=w3'.heap.size:=by rw[<-hv,World.size_alloc];omega
     have hbk:Below w2'.heap.size w2' w3':=by rw[<-hv];exact bM _
     have hC:w3'.heap[cb]? = some i6:=by rw[<-hv,hb];exact World.alloc_heap_new _ _
     have hCB:Bn<=cb:=by omega
     have hcm:mU ≠ cb:=by have:=(Array.getElem?_eq_some_iff.1 hM).1;omega
     replace hM:=(hbk.block mU (Array.getElem?_eq_some_iff.1 hM).1).trans hM;clear hv hb hbk;refine hK.out _ _ hH2 (fun hHeld=>?_);clear hK K hH2
     try simp only[Act.put,qa,qb,qc]
     refine bc (i:=6) (x:=none) rfl fun K hK=>?_;go_simp;have hpu:=bW cf.key w3' mU hM;rw[show(.agg (aw cf.key):Value)=.agg (aw cf.key).toList.toArray from rfl]at hpu;have hU:=bV w3' mU (Array.getElem?_eq_some_iff.1 hM).1 cf.key;have hkp:World.grownBy w3' (w3'.putObj mU (.map #[{ key:=.agg (aw cf.key),val:=.bool true,born:=0 }] 1)) (some mU):=grownBy_putObj' _ _ _;obtain⟨w4',hv⟩:∃X,X=w3'.putObj mU (.map #[{ key:=.agg (aw cf.key),val:=.bool true,born:=0 }] 1):=⟨_,rfl⟩
     rw[<-hv]at hkp hU;have hH2:Below Bn w3 w4':=aa.below hHeld (aa.of_row (F:=fun k=>k=mU) hkp rfl) (fun k e=>by rw[e];exact hMB) hz3;have hz4:Bn<=w4'.heap.size:=ba hz3 hkp.size;replace hC:=(hkp.block cb (Array.getElem?_eq_some_iff.1 hC).1 (fun e=>hcm (Option.some.inj e).symm)).trans hC;go_simp;rw[<-hv];clear hv hkp hpu hM;refine hK.out _ _ hH2 (fun hHeld=>?_);clear hK K hH2
     try simp only[Act.put,qa,qb,qc]
     refine dF (i:=7) (x:=some 26) (v:=.map (some mU)) rfl ?_
   rotate_left 2
   focus
    rw[if_pos (by rfl)];go_simp;refine(eX w1').mono ?_;rintro e w2' ⟨rfl,hv⟩;obtain⟨cb,hb⟩:=af w1'.heap.size
    rw[<-hb];dsimp only;have hH2:Below Bn w3 w2':=by rw[<-hv];exact hHeld.alloc hz1 _
    have hz2:Bn<=w2'.heap.size:=by rw[<-hv,World.size_alloc];omega
    have hbk:Below w1'.heap.size w1' w2':=by rw[<-hv];exact bM _
    have hC:w2'.heap[cb]? = some i6:=by rw[<-hv,hb];exact World.alloc_heap_new _ _
    have hCB:Bn<=cb:=by omega
    clear hv hb hbk;refine hK.out _ _ hH2 (fun hHeld=>?_);clear hK K hH2
    try simp only[Act.put,qa,qb,qc]
    refine bc (i:=3) (x:=some 23) rfl fun K hK=>?_;go_simp;obtain⟨w3',hv⟩:∃X,X=w2'.alloc (.map #[] 0):=⟨_,rfl⟩
    obtain⟨mU,hb⟩:=af w2'.heap.size
    have hH2:Below Bn w3 w3':=by rw[hv];exact hHeld.alloc hz2 _
    have hz3:Bn<=w3'.heap.size:=by rw[hv,World.size_alloc];omega
    have hbk:Below w2'.heap.size w2' w3':=by rw[hv];exact bM _
    have hM:w3'.heap[mU]? = some (.map #[] 0):=by rw[hv,hb];exact World.alloc_heap_new _ _
    have hMB:Bn<=mU:=by omega
    have hcm:mU ≠ cb:=by have:=(Array.getElem?_eq_some_iff.1 hC).1;omega
    replace hC:=(hbk.block cb (Array.getElem?_eq_some_iff.1 hC).1).trans hC;rw[<-hv,<-hb];clear hv hb hbk;refine hK.out _ _ hH2 (fun hHeld=>?_);clear hK K hH2
    try simp only[Act.put,qa,qb,qc]
    refine bc (i:=6) (x:=none) rfl fun K hK=>?_;go_simp;have hpu:=bW cf.key w3' mU hM;rw[show(.agg (aw cf.key):Value)=.agg (aw cf.key).toList.toArray from rfl]at hpu;have hU:=bV w3' mU (Array.getElem?_eq_some_iff.1 hM).1 cf.key;have hkp:World.grownBy w3' (w3'.putObj mU (.map #[{ key:=.agg (aw cf.key),val:=.bool true,born:=0 }] 1)) (some mU):=grownBy_putObj' _ _ _;obtain⟨w4',hv⟩:∃X,X=w3'.putObj mU (.map #[{ key:=.agg (aw cf.key),val:=.bool true,born:=0 }] 1):=⟨_,rfl⟩
    rw[<-hv]at hkp hU;have hH2:Below Bn w3 w4':=aa.below hHeld (aa.of_row (F:=fun k=>k=mU) hkp rfl) (fun k e=>by rw[e];exact hMB) hz3;have hz4:Bn<=w4'.heap.size:=ba hz3 hkp.size;replace hC:=(hkp.block cb (Array.getElem?_eq_some_iff.1 hC).1 (fun e=>hcm (Option.some.inj e).symm)).trans hC;go_simp;rw[<-hv];clear hv hkp hpu hM;refine hK.out _ _ hH2 (fun hHeld=>?_);clear hK K hH2
    try simp only[Act.put,qa,qb,qc]
    refine dF (i:=7) (x:=some 26) (v:=.map (some mU)) rfl ?_
  rotate_left 3
  focus
   rw[if_pos (by rfl)];go_simp;obtain⟨w1',hv⟩:∃X,X=w0.alloc (.map #[] 0):=⟨_,rfl⟩
   obtain⟨mU,hb⟩:=af w0.heap.size
   have hH2:Below Bn w3 w1':=by rw[hv];exact hHeld.alloc hz0 _
   have hz1:Bn<=w1'.heap.size:=by rw[hv,World.size_alloc];omega
   have hbk:Below w0.heap.size w0 w1':=by rw[hv];exact bM _
   have hM:w1'.heap[mU]? = some (.map #[] 0):=by rw[hv,hb];exact World.alloc_heap_new _ _
   have hMB:Bn<=mU:=by omega
   rw[<-hv,<-hb];clear hv hb hbk;refine hK.out _ _ hH2 (fun hHeld=>?_);clear hK K hH2
   try simp only[Act.put,qa,qb,qc]
   refine wpAnyH_ready (rs:=[2,6]) (by kernel_rfl) (by simp) ?_;refine AllReadyH.cons (o:=⟨some 22,_,_,_,_,_⟩) rfl (fun K hK=>?_) (AllReadyH.cons (o:=⟨none,_,_,_,_,_⟩) rfl (fun K hK=>?_) AllReadyH.nil)
   focus
    rw[if_pos (by rfl)];go_simp;refine(HNX.out w1').mono ?_;rintro e w2' ⟨rfl,hbk⟩;dsimp only;have hH2:Below Bn w3 w2':=hHeld.trans (hbk.mono hz1);have hz2:Bn<=w2'.heap.size:=ba hz1 hbk.size;replace hM:=(hbk.block mU (Array.getElem?_eq_some_iff.1 hM).1).trans hM;clear hbk;refine hK.out _ _ hH2 (fun hHeld=>?_);clear hK K hH2
    try simp only[Act.put,qa,qb,qc]
    refine wpAnyH_ready (rs:=[6,8]) (by kernel_rfl) (by simp) ?_;refine AllReadyH.cons (o:=⟨none,_,_,_,_,_⟩) rfl (fun K hK=>?_) (AllReadyH.cons (o:=⟨some 27,_,_,_,_,_⟩) rfl (fun K hK=>?_) AllReadyH.nil)
    focus
     rw[if_pos (by rfl)];go_simp;have hpu:=bW cf.key w2' mU hM;rw[show(.agg (aw cf.key):Value)=.agg (aw cf.key).toList.toArray from rfl]at hpu;have hU:=bV w2' mU (Array.getElem?_eq_some_iff.1 hM).1 cf.key;have hkp:World.grownBy w2' (w2'.putObj mU (.map #[{ key:=.agg (aw cf.key),val:=.bool true,born:=0 }] 1)) (some mU):=grownBy_putObj' _ _ _;obtain⟨w3',hv⟩:∃X,X=w2'.putObj mU (.map #[{ key:=.agg (aw cf.key),val:=.bool true,born:=0 }] 1):=⟨_,rfl⟩
     rw[<-hv]at hkp hU;have hH2:Below Bn w3 w3':=aa.below hHeld (aa.of_row (F:=fun k=>k=mU) hkp rfl) (fun k e=>by rw[e];exact hMB) hz2;have hz3:Bn<=w3'.heap.size:=ba hz2 hkp.size;go_simp;rw[<-hv];clear hv hkp hpu hM;refine hK.out _ _ hH2 (fun hHeld=>?_);clear hK K hH2
     try simp only[Act.put,qa,qb,qc]
     refine dF (i:=7) (x:=some 26) (v:=.map (some mU)) rfl ?_;refine bc (i:=8) (x:=some 27) rfl fun K hK=>?_;go_simp;refine(eX w3').mono ?_;rintro e w4' ⟨rfl,hv⟩;obtain⟨cb,hb⟩:=af w3'.heap.size
     rw[<-hb];dsimp only;have hH2:Below Bn w3 w4':=by rw[<-hv];exact hHeld.alloc hz3 _
     have hz4:Bn<=w4'.heap.size:=by rw[<-hv,World.size_alloc];omega
     have hbk:Below w3'.heap.size w3' w4':=by rw[<-hv];exact bM _
     have hC:w4'.heap[cb]? = some i6:=by rw[<-hv,hb];exact World.alloc_heap_new _ _
     have hCB:Bn<=cb:=by omega
     have hcm:mU ≠ cb:=by have:=hU.lt;omega
     replace hU:=hU.keep (hbk.block mU hU.lt);clear hv hb hbk;refine hK.out _ _ hH2 (fun hHeld=>?_);clear hK K hH2
    rotate_left
    focus
     rw[if_pos (by rfl)];go_simp;refine(eX w2').mono ?_;rintro e w3' ⟨rfl,hv⟩;obtain⟨cb,hb⟩:=af w2'.heap.size
     rw[<-hb];dsimp only;have hH2:Below Bn w3 w3':=by rw[<-hv];exact hHeld.alloc hz2 _
     have hz3:Bn<=w3'.heap.size:=by rw[<-hv,World.size_alloc];omega
     have hbk:Below w2'.heap.size w2' w3':=by rw[<-hv];exact bM _
     have hC:w3'.heap[cb]? = some i6:=by rw[<-hv,hb];exact World.alloc_heap_new _ _
     have hCB:Bn<=cb:=by omega
     have hcm:mU ≠ cb:=by have:=(Array.getElem?_eq_some_iff.1 hM).1;omega
     replace hM:=(hbk.block mU (Array.getElem?_eq_some_iff.1 hM).1).trans hM;clear hv hb hbk;refine hK.out _ _ hH2 (fun hHeld=>?_);clear hK K hH2
     try simp only[Act.put,qa,qb,qc]
     refine bc (i:=6) (x:=none) rfl fun K hK=>?_;go_simp;have hpu:=bW cf.key w3' mU hM;rw[show(.agg (aw cf.key):Value)=.agg (aw cf.key).toList.toArray from rfl]at hpu;have hU:=bV w3' mU (Array.getElem?_eq_some_iff.1 hM).1 cf.key;have hkp:World.grownBy w3' (w3'.putObj mU (.map #[{ key:=.agg (aw cf.key),val:=.bool true,born:=0 }] 1)) (some mU):=grownBy_putObj' _ _ _;obtain⟨w4',hv⟩:∃X,X=w3'.putObj mU (.map #[{ key:=.agg (aw cf.key),val:=.bool true,born:=0 }] 1):=⟨_,rfl⟩
     rw[<-hv]at hkp hU;have hH2:Below Bn w3 w4':=aa.below hHeld (aa.of_row (F:=fun k=>k=mU) hkp rfl) (fun k e=>by rw[e];exact hMB) hz3;have hz4:Bn<=w4'.heap.size:=ba hz3 hkp.size;replace hC:=(hkp.block cb (Array.getElem?_eq_some_iff.1 hC).1 (fun e=>hcm (Option.some.inj e).symm)).trans hC;go_simp;rw[<-hv];clear hv hkp hpu hM;refine hK.out _ _ hH2 (fun hHeld=>?_);clear hK K hH2
     try simp only[Act.put,qa,qb,qc]
     refine dF (i:=7) (x:=some 26) (v:=.map (some mU)) rfl ?_
   rotate_left 2
   focus
    rw[if_pos (by rfl)];go_simp;have hpu:=bW cf.key w1' mU hM;rw[show(.agg (aw cf.key):Value)=.agg (aw cf.key).toList.toArray from rfl]at hpu;have hU:=bV w1' mU (Array.getElem?_eq_some_iff.1 hM).1 cf.key;have hkp:World.grownBy w1' (w1'.putObj mU (.map #[{ key:=.agg (aw cf.key),val:=.bool true,born:=0 }] 1)) (some mU):=grownBy_putObj' _ _ _;obtain⟨w2',hv⟩:∃X,X=w1'.putObj mU (.map #[{ key:=.agg (aw cf.key),val:=.bool true,born:=0 }] 1):=⟨_,rfl⟩
    rw[<-hv]at hkp hU;have hH2:Below Bn w3 w2':=aa.below hHeld (aa.of_row (F:=fun k=>k=mU) hkp rfl) (fun k e=>by rw[e];exact hMB) hz1;have hz2:Bn<=w2'.heap.size:=ba hz1 hkp.size;go_simp;rw[<-hv];clear hv hkp hpu hM;refine hK.out _ _ hH2 (fun hHeld=>?_);clear hK K hH2
    try simp only[Act.put,qa,qb,qc]
    refine dF (i:=7) (x:=some 26) (v:=.map (some mU)) rfl ?_;refine bc (i:=2) (x:=some 22) rfl fun K hK=>?_;go_simp;refine(HNX.out w2').mono ?_;rintro e w3' ⟨rfl,hbk⟩;dsimp only;have hH2:Below Bn w3 w3':=hHeld.trans (hbk.mono hz2);have hz3:Bn<=w3'.heap.size:=ba hz2 hbk.size;replace hU:=hU.keep (hbk.block mU hU.lt);clear hbk;refine hK.out _ _ hH2 (fun hHeld=>?_);clear hK K hH2
    try simp only[Act.put,qa,qb,qc]
    refine bc (i:=8) (x:=some 27) rfl fun K hK=>?_;go_simp;refine(eX w3').mono ?_;rintro e w4' ⟨rfl,hv⟩;obtain⟨cb,hb⟩:=af w3'.heap.size
    rw[<-hb];dsimp only;have hH2:Below Bn w3 w4':=by rw[<-hv];exact hHeld.alloc hz3 _
    have hz4:Bn<=w4'.heap.size:=by rw[<-hv,World.size_alloc];omega
    have hbk:Below w3'.heap.size w3' w4':=by rw[<-hv];exact bM _
    have hC:w4'.heap[cb]? = some i6:=by rw[<-hv,hb];exact World.alloc_heap_new _ _
    have hCB:Bn<=cb:=by omega
    have hcm:mU ≠ cb:=by have:=hU.lt;omega
    replace hU:=hU.keep (hbk.block mU hU.lt);clear hv hb hbk;refine hK.out _ _ hH2 (fun hHeld=>?_);clear hK K hH2
  all_goals
   try simp only[Act.put,qa,qb,qc]
   refine ed (i:=9) (x:=some 28) (v:=.agg (ft cf.arr true 0 N (.slice none 0 0) (.slice none 0 0) mU cb)) rfl (.inl ⟨by rfl,fun W hW=>(by kernel_rfl)⟩) ?_;refine bc (i:=10) (x:=some 29) rfl fun K hK=>?_;go_simp;obtain⟨wv,hv⟩:=af (w4'.alloc (.cells (ft cf.arr true 0 N (.slice none 0 0) (.slice none 0 0) mU cb) 91))
   obtain⟨rb,hrb⟩:=af w4'.heap.size
   have hR:ae wv rb 91 (ft cf.arr true 0 N (.slice none 0 0) (.slice none 0 0) mU cb):=by rw[hv,hrb];exact ae.new _ _ _
   have hH2:Below Bn w3 wv:=by rw[hv];exact hHeld.alloc hz4 _
   have hbk:Below w4'.heap.size w4' wv:=by rw[hv];exact bM _
   replace hU:=hU.keep (hbk.block mU hU.lt);have hcl:=(Array.getElem?_eq_some_iff.1 hC).1;replace hC:=(hbk.block cb hcl).trans hC;have hne:cb ≠ rb:=by omega
   rw[<-hv,<-hrb];refine hK.out _ _ hH2 (fun hHeld=>?_);clear hK K
   try simp only[Act.put,qa,qb,qc]
   refine dF (i:=11) (x:=some 6) (v:=.pointer (some ⟨rb,0,none⟩)) rfl ?_;refine wpAnyH_done (by kernel_rfl) ?_ _;go_wp2;go_meet
   exact⟨rb,mU,cb,rfl,oo cf N HNR.out wv rb mU cb hR hU hC hne (fun e=>hcm e.symm),by omega,hMB,hCB,hH2⟩
 case rest=>
  obtain⟨g,ub,cb,rfl,hT,hg,hu,hcb,hB⟩:=hcut;have HI0:=zh (show RL cf N Bn w3 g ub cb 0 ct pn z 0 qn y (fun k=>k=g\/k=ub\/k=cb) (fun _=>False) none 0 [] none 0 [] wc from ⟨hT,fun k hk=>(by rcases hk with rfl | rfl | rfl<;>assumption),fun k hk=>hk.elim,hB⟩);have xs2:wc.cell? ⟨zb+1,2,none⟩=some (.slice A m c1):=(BS.out.below hB hzl).cell 2;have hm':(m:Int)<=9223372036854775807:=by omega
  have HM6:=zh hm;have HMQ6:=zh hmq;have hmq':(mq:Int)<=9223372036854775807:=by omega
  clear hT hB hg hu hcb;go_wp2;go_loopw [33] (fun v wr=>∃(k:Nat) (W R:Nat->Prop) (pA:Option Addr) (pc':Nat) (lp:List PE),k<=m/\v=.int .i64 k/\RL cf N Bn w3 g ub cb k ct pn z 0 qn y W R none 0 [] pA pc' lp wr) (fun v _=>m-(intOf v).toNat)
  case atStart=>exact⟨0,_,_,_,_,_,by omega,rfl,HI0.out⟩
  case round=>
   obtain⟨k,W,R,pA,pc',lp,hk,rfl,hRL⟩:=hrel;have RR:=zh hRL;have hbs:Bn<=wr.heap.size:=by have:=hRL.b.size;omega
   have hgB:Bn<=g:=hRL.wB g hRL.t.wg;have hgl:g < wr.heap.size:=hRL.t.blk.lt;clear hRL;by_cases hlt:k < m
   ·obtain⟨lb,lo,rfl,hlb,hlc⟩:=HC.out.at_ (by omega);obtain⟨c0,c1'⟩:=hlc k hlt;have hw3:lb < Bn:=by omega
    have q0:wr.cell? ⟨lb,lo+k*2,none⟩=some (.int .u32 (ct k)):=(RR.out.b.cell (p:=⟨lb,lo+k*2,none⟩) hw3).trans ((D3.out.cell (p:=⟨lb,lo+k*2,none⟩) hlb).trans c0);have q1:wr.cell? ⟨lb,lo+k*2+1,none⟩=some (.slice (PA k) (pn k) (pc k)):=(RR.out.b.cell (p:=⟨lb,lo+k*2+1,none⟩) hw3).trans ((D3.out.cell (p:=⟨lb,lo+k*2+1,none⟩) hlb).trans c1');obtain⟨r0,r1⟩:=HC.out.rng k hlt;obtain⟨hp1,hp9⟩:=(iB _).1 (HFO.out.elem k hlt).1;have RK:=zh (show au wr wr.heap.size (PA k) (pn k) (fun j=>.int .u8 (z k j))from (((HC.out.row k hlt).below D3.out).below (RR.out.b.mono hbw)).more (ba hbw hbs));have hby:=HC.out.byte k hlt;have HBY:=zh hby;have hplen:lp.length=k:=by have:=congrArg List.length RR.out.t.pv;simpa[eB,tX]using this
    have HPL:=zh hplen;have HRS:=zh (rA k ct pn z);obtain⟨x,hx⟩:=af (ct k)
    rw[<-hx]at q0 r0 r1 HRS;have k0:(0:Int)<=(k:Int):=by omega
    have k1:(k:Int) < (m:Int):=by omega
    clear hx hlc c0 c1' hby hplen;go_upto_region 7 with (fail)
    refine ag (fun W'=>ae W' wr.heap.size 68 #[.int .u32 x,.slice (PA k) (pn k) (pc k)]/\Below wr.heap.size wr W') ⟨ae.new _ _ _,(Below.refl _ wr).alloc ao _⟩ ?_;rintro W6 ⟨b6,b7⟩;obtain⟨xb,hxb⟩:=af wr.heap.size
    have hxg:xb ≠ g:=by omega
    have hxp:∀a,pA=some a->xb ≠ a.block:=fun a e=>by have:=RR.out.t.p.lt e;omega
    have T6:=zh (RR.out.t.below b7);have B6:=zh (show Below Bn w3 W6 from RR.out.b.trans (b7.mono hbs));have hs6:Bn<=W6.heap.size:=ba hbs b7.size;have R6:=zh (RK.out.next b7);rw[<-hxb]at b6 ⊢;have X6:=zh b6;clear b6 b7 hxb q0 q1;have HS:=zh (show ∀W',aa (fun j=>j=g\/∃a,pA=some a/\j=a.block) W6 W'->W'.cell? ⟨xb,0,none⟩=some (.int .u32 x)/\W'.cell? ⟨xb,1,none⟩=some (.slice (PA k) (pn k) (pc k))from fun W' hW=>by
     have:=hW.blk X6.out (fun hf=>by rcases hf with h | ⟨a,ha,h⟩;exact hxg h;exact hxp a ha h)
     exact⟨this.cell 0,this.cell 1⟩)
    obtain⟨w0,hw0⟩:=af W6.drew
    have T0:bN w0 g (eB cf N k ct pn z 0 qn y) W R none 0 [] pA pc' lp ub cb:=by rw[hw0];exact T6.out.below (Below.refl _ _).drew
    have hb0:Below W6.heap.size W6 w0:=by rw[hw0];exact(Below.refl _ _).drew
    obtain⟨ip,hip,hipz,hips,hipb⟩:=m8;refine wp_region_held_drew (S:=fun w'=>aa (fun j=>j=g\/∃a,pA=some a/\j=a.block) W6 w') (by kernel_rfl) ((aa.refl (w:=W6)).drew) (fun hHeld=>?_);rw[<-hw0];rw[<-hw0]at hHeld;clear hw0;obtain⟨pl,hpl⟩:=af lp.length
    have HPL2:=zh hpl;clear hpl;have hbF:Bn<=w0.heap.size:=ba hs6 hb0.size;have HST:=zh (fun(W':World) (W2 R2:Nat->Prop) (A9 A2:Option Addr) (c9 c2':Nat) (h:bN W' g { eB cf N k ct pn z 0 qn y with P:=(lp++[(⟨⟨x,pn k,z k,true⟩,A2,c2'⟩:PE)]).map (·.v) } W2 R2 none 0 [] A9 c9 (lp++[(⟨⟨x,pn k,z k,true⟩,A2,c2'⟩:PE)]) ub cb)=>(show bN W' g (eB cf N (k+1) ct pn z 0 qn y) W2 R2 none 0 [] A9 c9 (lp++[(⟨⟨x,pn k,z k,true⟩,A2,c2'⟩:PE)]) ub cb from by
     have e1:(lp++[(⟨⟨x,pn k,z k,true⟩,A2,c2'⟩:PE)]).map (·.v)=cz (k+1) ct pn z:=by
      rw[HRS.out,List.map_append,RR.out.t.pv];rfl
     rw[e1]at h
     exact h))
    refine dF (i:=0) (x:=some 37) (v:=.pointer (some ⟨g,0,none⟩)) rfl ?_;refine dF (i:=1) (x:=some 38) (v:=.pointer (some ⟨g,0,none⟩)) rfl ?_;refine bF (i:=2) (x:=some 39) (v:=.pointer (some ⟨g,0,none⟩)) rfl ?_;refine bF (i:=3) (x:=some 40) (v:=.pointer (some ⟨g,43,none⟩)) rfl ?_;refine bF (i:=5) (x:=some 42) (v:=.pointer (some ⟨xb,0,none⟩)) rfl ?_;refine ed (i:=6) (x:=some 43) (v:=.int .u32 x) rfl (.inl ⟨by rfl,fun W hW=>(by obtain⟨u0,u1⟩:=HS.out W hW;go_simp)⟩) ?_;refine bF (i:=7) (x:=some 44) (v:=.pointer (some ⟨xb,1,none⟩)) rfl ?_;refine ed (i:=8) (x:=some 45) (v:=.slice (PA k) (pn k) (pc k)) rfl (.inl ⟨by rfl,fun W hW=>(by obtain⟨u0,u1⟩:=HS.out W hW;go_simp)⟩) ?_;refine wpAnyH_ready (rs:=[4,9]) (by kernel_rfl) (by simp) ?_;refine AllReadyH.cons (o:=⟨some 41,_,_,_,_,_⟩) rfl (fun K hK=>?_) (AllReadyH.cons (o:=⟨some 46,_,_,_,_,_⟩) rfl (fun K hK=>?_) AllReadyH.nil)
    focus
     rw[if_pos (by rfl)];have h43:=T0.cp;rw[<-HPL2.out]at h43;go_simp;refine hK.out _ _ hHeld (fun hHeld=>?_);clear hK K h43
     try simp only[Act.put,qa,qb,qc]
     refine bc (i:=9) (x:=some 46) rfl fun K hK=>?_;go_simp;refine(bw (PA k) (pn k) (pc k) (z k) w0 (by omega) (R6.out.next hb0)).mono ?_;rintro e w1' ⟨A2,c2',rfl,hc2,hR2,hF2,hbk⟩;dsimp only;have hFl:∀a,A2=some a->w0.heap.size<=a.block:=hF2;have hFr:∀a,A2=some a->a.block < w1'.heap.size:=fun a e=>db hR2 hp1 e;have hwl1:∀j,W j->j < w0.heap.size:=T0.win;have T1:=T0.below hbk;have hb1:Below W6.heap.size W6 w1':=hb0.trans (hbk.mono hb0.size);have hW2:∀j,W j->∀a,A2=some a->j ≠ a.block:=fun j hj a e=>by have:=hFl a e;have:=hwl1 j hj;omega
     refine hK.out _ _ (hHeld.more hbk) (fun hHeld=>?_);clear hK K hbk hF2
     try simp only[Act.put,qa,qb,qc]
     refine bF (i:=10) (x:=some 47) (v:=.agg #[.int .u32 x,.slice A2 (pn k) c2']) rfl ?_;refine bF (i:=11) (x:=some 48) (v:=.agg #[.int .u32 x,.slice A2 (pn k) c2',.bool true]) rfl ?_;refine bc (i:=12) (x:=some 49) rfl fun K hK=>?_;go_simp;obtain⟨w2',hv⟩:∃X,X=w1'.alloc (.cells #[.int .u32 x,.slice A2 (pn k) c2',.bool true] 94):=⟨_,rfl⟩
     obtain⟨nb,hnb⟩:=af w1'.heap.size
     have hbk:Below w1'.heap.size w1' w2':=by rw[hv];exact bM _
     have hNB:ae w2' nb 94 #[.int .u32 x,.slice A2 (pn k) c2',.bool true]:=by rw[hv,hnb];exact ae.new _ _ _
     have T2:=T1.below hbk;have hb2:Below W6.heap.size W6 w2':=hb1.trans (hbk.mono hb1.size);replace hR2:=hR2.next hbk;replace hFr:∀a,A2=some a->a.block < w2'.heap.size:=fun a e=>bg (hFr a e) hbk.size;rw[<-hv,<-hnb];refine hK.out _ _ (hHeld.more hbk) (fun hHeld=>?_);clear hK K hbk hv hnb
    rotate_left
    focus
     rw[if_pos (by rfl)];go_simp;refine(bw (PA k) (pn k) (pc k) (z k) w0 (by omega) (R6.out.next hb0)).mono ?_;rintro e w1' ⟨A2,c2',rfl,hc2,hR2,hF2,hbk⟩;dsimp only;have hFl:∀a,A2=some a->w0.heap.size<=a.block:=hF2;have hFr:∀a,A2=some a->a.block < w1'.heap.size:=fun a e=>db hR2 hp1 e;have hwl1:∀j,W j->j < w0.heap.size:=T0.win;have T1:=T0.below hbk;have hb1:Below W6.heap.size W6 w1':=hb0.trans (hbk.mono hb0.size);have hW2:∀j,W j->∀a,A2=some a->j ≠ a.block:=fun j hj a e=>by have:=hFl a e;have:=hwl1 j hj;omega
     refine hK.out _ _ (hHeld.more hbk) (fun hHeld=>?_);clear hK K hbk hF2
     try simp only[Act.put,qa,qb,qc]
     refine bF (i:=10) (x:=some 47) (v:=.agg #[.int .u32 x,.slice A2 (pn k) c2']) rfl ?_;refine bF (i:=11) (x:=some 48) (v:=.agg #[.int .u32 x,.slice A2 (pn k) c2',.bool true]) rfl ?_;refine wpAnyH_ready (rs:=[4,12]) (by kernel_rfl) (by simp) ?_;refine AllReadyH.cons (o:=⟨some 41,_,_,_,_,_⟩) rfl (fun K hK=>?_) (AllReadyH.cons (o:=⟨some 49,_,_,_,_,_⟩) rfl (fun K hK=>?_) AllReadyH.nil)
     focus
      rw[if_pos (by rfl)];have h43:=T1.cp;rw[<-HPL2.out]at h43;go_simp;refine hK.out _ _ hHeld (fun hHeld=>?_);clear hK K h43
      try simp only[Act.put,qa,qb,qc]
      refine bc (i:=12) (x:=some 49) rfl fun K hK=>?_;go_simp;obtain⟨w2',hv⟩:∃X,X=w1'.alloc (.cells #[.int .u32 x,.slice A2 (pn k) c2',.bool true] 94):=⟨_,rfl⟩
      obtain⟨nb,hnb⟩:=af w1'.heap.size
      have hbk:Below w1'.heap.size w1' w2':=by rw[hv];exact bM _
      have hNB:ae w2' nb 94 #[.int .u32 x,.slice A2 (pn k) c2',.bool true]:=by rw[hv,hnb];exact ae.new _ _ _
      have T2:=T1.below hbk;have hb2:Below W6.heap.size W6 w2':=hb1.trans (hbk.mono hb1.size);replace hR2:=hR2.next hbk;replace hFr:∀a,A2=some a->a.block < w2'.heap.size:=fun a e=>bg (hFr a e) hbk.size;rw[<-hv,<-hnb];refine hK.out _ _ (hHeld.more hbk) (fun hHeld=>?_);clear hK K hbk hv hnb
     rotate_left
     focus
      rw[if_pos (by rfl)];go_simp;obtain⟨w2',hv⟩:∃X,X=w1'.alloc (.cells #[.int .u32 x,.slice A2 (pn k) c2',.bool true] 94):=⟨_,rfl⟩
      obtain⟨nb,hnb⟩:=af w1'.heap.size
      have hbk:Below w1'.heap.size w1' w2':=by rw[hv];exact bM _
      have hNB:ae w2' nb 94 #[.int .u32 x,.slice A2 (pn k) c2',.bool true]:=by rw[hv,hnb];exact ae.new _ _ _
      have T2:=T1.below hbk;have hb2:Below W6.heap.size W6 w2':=hb1.trans (hbk.mono hb1.size);replace hR2:=hR2.next hbk;replace hFr:∀a,A2=some a->a.block < w2'.heap.size:=fun a e=>bg (hFr a e) hbk.size;rw[<-hv,<-hnb];refine hK.out _ _ (hHeld.more hbk) (fun hHeld=>?_);clear hK K hbk hv hnb
      try simp only[Act.put,qa,qb,qc]
      refine bc (i:=4) (x:=some 41) rfl fun K hK=>?_;have h43:=T2.cp;rw[<-HPL2.out]at h43;go_simp;refine hK.out _ _ hHeld (fun hHeld=>?_);clear hK K h43
    all_goals
     try simp only[Act.put,qa,qb,qc]
     refine bc (i:=13) (x:=some 50) rfl fun K hK=>?_;have hSL:=T2.p;rw[<-HPL2.out]at hSL;refine bB _ _ _ _ rfl w2' 94 ip (.agg #[.int .u32 0,.slice none 0 0,.bool false]) 3 40 Tryz.underlying89 hip hipz hips hipb rfl pA pl pc' (lp.flatMap PE.cells) rfl hSL _ rfl 1 [.int .u32 x,.slice A2 (pn k) c2',.bool true] (Src.ofSlice _ Tryz.underlying89 ⟨nb,0,none⟩ 1 1 _ rfl (fun j u hu=>by
       have hj:j < 3:=(List.getElem?_eq_some_iff.1 hu).1;rw[Addr.add_lit,Nat.zero_add,hNB.cell j];simpa using hu) (by simp[Value.oneCell'])) (by decide) (by unfold maxLen;have:=HPL.out;have:=HPL2.out;omega) (by have:=HPL.out;have:=HPL2.out;omega) ?_
     intro A9 c9 wA hSL9 hK9 hA9;dsimp only;have hA9n:∀a,A9=some a->(∃a',pA=some a'/\a.block=a'.block)\/w2'.heap.size<=a.block:=hA9;refine hK.out _ _ (hHeld.trans hK9 (fun j _ hj=>.inr hj)) (fun hHeld=>?_);clear hK K
     try simp only[Act.put,qa,qb,qc]
     refine bF (i:=14) (x:=some 51) (v:=.pointer (some ⟨g,0,none⟩)) rfl ?_;refine bF (i:=15) (x:=some 52) (v:=.pointer (some ⟨g,43,none⟩)) rfl ?_;refine bc (i:=16) (x:=none) rfl fun K hK=>?_;have hg9:ae wA g 91 _:=hK9.blk T2.blk (fun⟨a,ha,e⟩=>T2.gp a ha e);have hc43:wA.cell? ⟨g,43,none⟩=some (.slice pA lp.length pc'):=(hg9.cell 43).trans (bv (eB cf N k ct pn z 0 qn y).C.arr_size 4);have hf43:=hg9.frozen 43;have T9:=T2.moreR (R':=fun j=>R j\/∃a,A2=some a/\j=a.block) (fun j hj=>.inl hj) (fun j hw hr=>by rcases hr with hr | ⟨a,ha,e⟩;exact T2.dis j hw hr;exact hW2 j hw a ha e) (fun j hr=>by rcases hr with hr | ⟨a,ha,e⟩;exact T2.rin j hr;(rw[e];exact hFr a ha));have hpk9:∀e:PE,e∈lp++[(⟨⟨x,pn k,z k,true⟩,A2,c2'⟩:PE)]->ci wA (fun j=>R j\/∃a,A2=some a/\j=a.block) e.A e.v.n e.c e.v.z:=fun e he=>by
      have hx:ci w2' (fun j=>R j\/∃a,A2=some a/\j=a.block) e.A e.v.n e.c e.v.z:=by
       rcases List.mem_append.1 he with he | he
       ·exact T9.pe e he
       ·have:e=(⟨⟨x,pn k,z k,true⟩,A2,c2'⟩:PE):=by simpa using he
        rw[this]
        exact ci.of_clone hp1 hp9 hc2 HBY.out hR2
      exact hx.keep hK9 (fun j ⟨a,ha,e2⟩ hr=>T9.dis j (by rw[e2];exact T9.wp a ha) hr)
     have hlen9:(lp++[(⟨⟨x,pn k,z k,true⟩,A2,c2'⟩:PE)]).length=pl+1:=by rw[List.length_append,HPL2.out];rfl
     have hSL9':SL wA 94 3 A9 (lp++[(⟨⟨x,pn k,z k,true⟩,A2,c2'⟩:PE)]).length c9 ((lp++[(⟨⟨x,pn k,z k,true⟩,A2,c2'⟩:PE)]).flatMap PE.cells):=by
      rw[hlen9,List.flatMap_append]
      exact hSL9
     have TF:=T9.setP hK9 hA9n hSL9' hpk9 (fun e he=>by rcases List.mem_append.1 he with he | he;exact T9.pr e.v (by rw[<-T9.pv];exact List.mem_map_of_mem he);(have:e=(⟨⟨x,pn k,z k,true⟩,A2,c2'⟩:PE):=by simpa using he);rw[this];exact⟨r0,r1⟩);rw[hlen9]at TF;have hbA:Below Bn w3 wA:=aa.below ((show Below Bn w3 W6 from B6.out).trans (hb2.mono hs6)) (hK9.mono (G:=W) (fun j ⟨a,ha,e2⟩=>by rw[e2];exact T2.wp a ha)) RR.out.wB (ba hs6 hb2.size);have hsA:Bn<=wA.heap.size:=ba (ba hs6 hb2.size) hK9.size;have hsn:Bn<=w2'.heap.size:=ba hs6 hb2.size;have hRBx:∀j,(R j\/∃a,A2=some a/\j=a.block)->Bn<=j:=fun j hr=>by
      rcases hr with hr | ⟨a,ha,e⟩
      ·exact RR.out.rB j hr
      ·have:=hFl a ha;have:=hbF;omega
     have hWBx:∀j,(W j\/∃a,A9=some a/\j=a.block)->Bn<=j:=fun j hr=>by
      rcases hr with hr | ⟨a,ha,e⟩
      ·exact RR.out.wB j hr
      ·rcases hA9n a ha with ⟨a',ha',e'⟩ | hge
       ·have:=RR.out.wB a'.block (T2.wp a' ha');omega
       ·omega
     have HTF:=zh TF;have HBF:=zh (show Below Bn w3 (wA.setCell ⟨g,43,none⟩ (.slice A9 (pl+1) c9))from hbA.setCell (p:=⟨g,43,none⟩) hgB _);have HRB:=zh hRBx;have HWB:=zh hWBx;have hS9:aa (fun j=>j=g\/∃a,pA=some a/\j=a.block) W6 (wA.setCell ⟨g,43,none⟩ (.slice A9 (pl+1) c9)):=hHeld.setCell (p:=⟨g,43,none⟩) (.inl rfl) _;clear TF hSL9 hSL9' hpk9 hK9 hA9 hA9n T9 hg9 hSL hRBx hWBx hbA;go_simp;refine hK.out _ _ hS9 (fun hHeld=>?_);clear hK K hS9
     try simp only[Act.put]
     refine wpAnyH_done (by kernel_rfl) ?_ _;go_wp2;go_roundw
     case rel=>first | exact⟨k+1,_,_,_,_,_,by omega,by go_num,HST.out _ _ _ _ _ _ _ HTF.out,HWB.out,HRB.out,HBF.out⟩ | ((repeat apply Exists.intro);exact⟨⟨by omega,by go_num,HST.out _ _ _ _ _ _ _ HTF.out,HWB.out,HRB.out,HBF.out⟩,rfl⟩)
     case measure=>simp[intOf];omega
   ·obtain rfl:k=m:=by omega
    have ys3:wr.cell? ⟨zb+1,3,none⟩=some (.slice A2 mq c2):=(BS.out.below RR.out.b hzl).cell 3;have HRP:=zh RR.out.t.pv;go_wp2;go_loopw [57] (fun v wq=>∃(j:Nat) (W R:Nat->Prop) (qA:Option Addr) (qc':Nat) (lq:List WE),j<=mq/\v=.int .i64 j/\RL cf N Bn w3 g ub cb k ct pn z j qn y W R qA qc' lq pA pc' lp wq) (fun v _=>mq-(intOf v).toNat)
    case atStart=>exact⟨0,_,_,_,_,_,by omega,rfl,RR.out⟩
    case round=>
     clear RR hbs hgl ys3;obtain⟨j,W,R,qA,qc',lq,hj,rfl,hRL⟩:=hrel;have RR:=zh hRL;have hbs:Bn<=wr.heap.size:=by have:=hRL.b.size;omega
     have hgl:g < wr.heap.size:=hRL.t.blk.lt;clear hRL;by_cases hlt:j < mq
     ·obtain⟨lb,lo,rfl,hlb,hlc⟩:=HQ.out.at_ (by omega);have hw3:lb < Bn:=by omega
      have q1:wr.cell? ⟨lb,lo+j,none⟩=some (.slice (QA j) (qn j) (qc j)):=(RR.out.b.cell (p:=⟨lb,lo+j,none⟩) hw3).trans ((D3.out.cell (p:=⟨lb,lo+j,none⟩) hlb).trans (hlc j hlt));obtain⟨hp1,hp9⟩:=(iB _).1 (HFO.out.queue j hlt);have R6:=zh (show au wr wr.heap.size (QA j) (qn j) (fun i=>.int .u8 (y j i))from (((HQ.out.row j hlt).below D3.out).below (RR.out.b.mono hbw)).more (ba hbw hbs));have HBY:=zh (HQ.out.byte j hlt);have HPL:=zh (show lq.length=j from by have:=congrArg List.length RR.out.t.qv;simpa[eB,tC]using this);have HRS:=zh (sA j qn y);have k0:(0:Int)<=(j:Int):=by omega
      have k1:(j:Int) < (mq:Int):=by omega
      clear hlc;go_upto_region 12 with (fail)
      clear q1;obtain⟨W6,rfl⟩:∃W6:World,W6=wr:=⟨_,rfl⟩
      have T6:=zh RR.out.t;have B6:=zh RR.out.b;have hs6:Bn<=W6.heap.size:=hbs;obtain⟨w0,hw0⟩:=af W6.drew
      have T0:bN w0 g (eB cf N k ct pn z j qn y) W R qA qc' lq pA pc' lp ub cb:=by rw[hw0];exact T6.out.below (Below.refl _ _).drew
      have hb0:Below W6.heap.size W6 w0:=by rw[hw0];exact(Below.refl _ _).drew
      obtain⟨iw,hiw,hiwz,hiws,hiwb⟩:=jV;refine wp_region_held_drew (S:=fun w'=>aa (fun j=>j=g\/∃a,qA=some a/\j=a.block) W6 w') (by kernel_rfl) ((aa.refl (w:=W6)).drew) (fun hHeld=>?_);rw[<-hw0];rw[<-hw0]at hHeld;clear hw0;obtain⟨ql,hql⟩:=af lq.length
      have HPL2:=zh hql;clear hql;have hbF:Bn<=w0.heap.size:=ba hs6 hb0.size;have HST:=zh (fun(W':World) (W2 R2:Nat->Prop) (A9 A2:Option Addr) (c9 c2':Nat) (h:bN W' g { eB cf N k ct pn z j qn y with Q:=(lq++[(⟨⟨qn j,y j,0⟩,A2,c2'⟩:WE)]).map (·.v) } W2 R2 A9 c9 (lq++[(⟨⟨qn j,y j,0⟩,A2,c2'⟩:WE)]) pA pc' lp ub cb)=>(show bN W' g (eB cf N k ct pn z (j+1) qn y) W2 R2 A9 c9 (lq++[(⟨⟨qn j,y j,0⟩,A2,c2'⟩:WE)]) pA pc' lp ub cb from by
       have e1:(lq++[(⟨⟨qn j,y j,0⟩,A2,c2'⟩:WE)]).map (·.v)=ee (j+1) qn y:=by
        rw[HRS.out,List.map_append,RR.out.t.qv];rfl
       rw[e1]at h
       exact h))
      refine dF (i:=0) (x:=some 61) (v:=.pointer (some ⟨g,0,none⟩)) rfl ?_;refine dF (i:=1) (x:=some 62) (v:=.pointer (some ⟨g,0,none⟩)) rfl ?_;refine bF (i:=2) (x:=some 63) (v:=.pointer (some ⟨g,0,none⟩)) rfl ?_;refine bF (i:=3) (x:=some 64) (v:=.pointer (some ⟨g,42,none⟩)) rfl ?_;refine dF (i:=5) (x:=some 66) (v:=.slice (QA j) (qn j) (qc j)) rfl ?_;refine wpAnyH_ready (rs:=[4,6]) (by kernel_rfl) (by simp) ?_;refine AllReadyH.cons (o:=⟨some 65,_,_,_,_,_⟩) rfl (fun K hK=>?_) (AllReadyH.cons (o:=⟨some 67,_,_,_,_,_⟩) rfl (fun K hK=>?_) AllReadyH.nil)
      focus
       rw[if_pos (by rfl)];have h43:=T0.cq;rw[<-HPL2.out]at h43;go_simp;refine hK.out _ _ hHeld (fun hHeld=>?_);clear hK K h43
       try simp only[Act.put,qa,qb,qc]
       refine bc (i:=6) (x:=some 67) rfl fun K hK=>?_;go_simp;refine(bw (QA j) (qn j) (qc j) (y j) w0 (by omega) (R6.out.next hb0)).mono ?_;rintro e w1' ⟨A2,c2',rfl,hc2,hR2,hF2,hbk⟩;dsimp only;have hFl:∀a,A2=some a->w0.heap.size<=a.block:=hF2;have hFr:∀a,A2=some a->a.block < w1'.heap.size:=fun a e=>db hR2 hp1 e;have hwl1:∀j,W j->j < w0.heap.size:=T0.win;have T1:=T0.below hbk;have hb1:Below W6.heap.size W6 w1':=hb0.trans (hbk.mono hb0.size);have hW2:∀j,W j->∀a,A2=some a->j ≠ a.block:=fun j hj a e=>by have:=hFl a e;have:=hwl1 j hj;omega
       refine hK.out _ _ (hHeld.more hbk) (fun hHeld=>?_);clear hK K hbk hF2
       try simp only[Act.put,qa,qb,qc]
       refine bF (i:=7) (x:=some 68) (v:=.agg #[.slice A2 (qn j) c2',.int .i64 0]) rfl ?_;refine bc (i:=8) (x:=some 69) rfl fun K hK=>?_;go_simp;obtain⟨w2',hv⟩:∃X,X=w1'.alloc (.cells #[.slice A2 (qn j) c2',.int .i64 0] 96):=⟨_,rfl⟩
       obtain⟨nb,hnb⟩:=af w1'.heap.size
       have hbk:Below w1'.heap.size w1' w2':=by rw[hv];exact bM _
       have hNB:ae w2' nb 96 #[.slice A2 (qn j) c2',.int .i64 0]:=by rw[hv,hnb];exact ae.new _ _ _
       have T2:=T1.below hbk;have hb2:Below W6.heap.size W6 w2':=hb1.trans (hbk.mono hb1.size);replace hR2:=hR2.next hbk;replace hFr:∀a,A2=some a->a.block < w2'.heap.size:=fun a e=>bg (hFr a e) hbk.size;rw[<-hv,<-hnb];refine hK.out _ _ (hHeld.more hbk) (fun hHeld=>?_);clear hK K hbk hv hnb
      rotate_left
      focus
       rw[if_pos (by rfl)];go_simp;refine(bw (QA j) (qn j) (qc j) (y j) w0 (by omega) (R6.out.next hb0)).mono ?_;rintro e w1' ⟨A2,c2',rfl,hc2,hR2,hF2,hbk⟩;dsimp only;have hFl:∀a,A2=some a->w0.heap.size<=a.block:=hF2;have hFr:∀a,A2=some a->a.block < w1'.heap.size:=fun a e=>db hR2 hp1 e;have hwl1:∀j,W j->j < w0.heap.size:=T0.win;have T1:=T0.below hbk;have hb1:Below W6.heap.size W6 w1':=hb0.trans (hbk.mono hb0.size);have hW2:∀j,W j->∀a,A2=some a->j ≠ a.block:=fun j hj a e=>by have:=hFl a e;have:=hwl1 j hj;omega
       refine hK.out _ _ (hHeld.more hbk) (fun hHeld=>?_);clear hK K hbk hF2
       try simp only[Act.put,qa,qb,qc]
       refine bF (i:=7) (x:=some 68) (v:=.agg #[.slice A2 (qn j) c2',.int .i64 0]) rfl ?_;refine wpAnyH_ready (rs:=[4,8]) (by kernel_rfl) (by simp) ?_;refine AllReadyH.cons (o:=⟨some 65,_,_,_,_,_⟩) rfl (fun K hK=>?_) (AllReadyH.cons (o:=⟨some 69,_,_,_,_,_⟩) rfl (fun K hK=>?_) AllReadyH.nil)
       focus
        rw[if_pos (by rfl)];have h43:=T1.cq;rw[<-HPL2.out]at h43;go_simp;refine hK.out _ _ hHeld (fun hHeld=>?_);clear hK K h43
        try simp only[Act.put,qa,qb,qc]
        refine bc (i:=8) (x:=some 69) rfl fun K hK=>?_;go_simp;obtain⟨w2',hv⟩:∃X,X=w1'.alloc (.cells #[.slice A2 (qn j) c2',.int .i64 0] 96):=⟨_,rfl⟩
        obtain⟨nb,hnb⟩:=af w1'.heap.size
        have hbk:Below w1'.heap.size w1' w2':=by rw[hv];exact bM _
        have hNB:ae w2' nb 96 #[.slice A2 (qn j) c2',.int .i64 0]:=by rw[hv,hnb];exact ae.new _ _ _
        have T2:=T1.below hbk;have hb2:Below W6.heap.size W6 w2':=hb1.trans (hbk.mono hb1.size);replace hR2:=hR2.next hbk;replace hFr:∀a,A2=some a->a.block < w2'.heap.size:=fun a e=>bg (hFr a e) hbk.size;rw[<-hv,<-hnb];refine hK.out _ _ (hHeld.more hbk) (fun hHeld=>?_);clear hK K hbk hv hnb
       rotate_left
       focus
        rw[if_pos (by rfl)];go_simp;obtain⟨w2',hv⟩:∃X,X=w1'.alloc (.cells #[.slice A2 (qn j) c2',.int .i64 0] 96):=⟨_,rfl⟩
        obtain⟨nb,hnb⟩:=af w1'.heap.size
        have hbk:Below w1'.heap.size w1' w2':=by rw[hv];exact bM _
        have hNB:ae w2' nb 96 #[.slice A2 (qn j) c2',.int .i64 0]:=by rw[hv,hnb];exact ae.new _ _ _
        have T2:=T1.below hbk;have hb2:Below W6.heap.size W6 w2':=hb1.trans (hbk.mono hb1.size);replace hR2:=hR2.next hbk;replace hFr:∀a,A2=some a->a.block < w2'.heap.size:=fun a e=>bg (hFr a e) hbk.size;rw[<-hv,<-hnb];refine hK.out _ _ (hHeld.more hbk) (fun hHeld=>?_);clear hK K hbk hv hnb
        try simp only[Act.put,qa,qb,qc]
        refine bc (i:=4) (x:=some 65) rfl fun K hK=>?_;have h43:=T2.cq;rw[<-HPL2.out]at h43;go_simp;refine hK.out _ _ hHeld (fun hHeld=>?_);clear hK K h43
      all_goals
       try simp only[Act.put,qa,qb,qc]
       refine bc (i:=9) (x:=some 70) rfl fun K hK=>?_;have hSL:=T2.q;rw[<-HPL2.out]at hSL;refine bB _ _ _ _ rfl w2' 96 iw (.agg #[.slice none 0 0,.int .i64 0]) 2 32 Tryz.underlying88 hiw hiwz hiws hiwb rfl qA ql qc' (lq.flatMap WE.cells) rfl hSL _ rfl 1 [.slice A2 (qn j) c2',.int .i64 0] (Src.ofSlice _ Tryz.underlying88 ⟨nb,0,none⟩ 1 1 _ rfl (fun j u hu=>by
         have hj:j < 2:=(List.getElem?_eq_some_iff.1 hu).1;rw[Addr.add_lit,Nat.zero_add,hNB.cell j];simpa using hu) (by simp[Value.oneCell'])) (by decide) (by unfold maxLen;have:=HPL.out;have:=HPL2.out;omega) (by have:=HPL.out;have:=HPL2.out;omega) ?_
       intro A9 c9 wA hSL9 hK9 hA9;dsimp only;have hA9n:∀a,A9=some a->(∃a',qA=some a'/\a.block=a'.block)\/w2'.heap.size<=a.block:=hA9;refine hK.out _ _ (hHeld.trans hK9 (fun j _ hj=>.inr hj)) (fun hHeld=>?_);clear hK K
       try simp only[Act.put,qa,qb,qc]
       refine bF (i:=10) (x:=some 71) (v:=.pointer (some ⟨g,0,none⟩)) rfl ?_;refine bF (i:=11) (x:=some 72) (v:=.pointer (some ⟨g,42,none⟩)) rfl ?_;refine bc (i:=12) (x:=none) rfl fun K hK=>?_;have hg9:ae wA g 91 _:=hK9.blk T2.blk (fun⟨a,ha,e⟩=>T2.gq a ha e);have hc43:wA.cell? ⟨g,42,none⟩=some (.slice qA lq.length qc'):=(hg9.cell 42).trans (bv (eB cf N k ct pn z j qn y).C.arr_size 3);have hf43:=hg9.frozen 42;have T9:=T2.moreR (R':=fun j=>R j\/∃a,A2=some a/\j=a.block) (fun j hj=>.inl hj) (fun j hw hr=>by rcases hr with hr | ⟨a,ha,e⟩;exact T2.dis j hw hr;exact hW2 j hw a ha e) (fun j hr=>by rcases hr with hr | ⟨a,ha,e⟩;exact T2.rin j hr;(rw[e];exact hFr a ha));have hpk9:∀e:WE,e∈lq++[(⟨⟨qn j,y j,0⟩,A2,c2'⟩:WE)]->ci wA (fun j=>R j\/∃a,A2=some a/\j=a.block) e.A e.v.n e.c e.v.z:=fun e he=>by
        have hx:ci w2' (fun j=>R j\/∃a,A2=some a/\j=a.block) e.A e.v.n e.c e.v.z:=by
         rcases List.mem_append.1 he with he | he
         ·exact T9.qe e he
         ·have:e=(⟨⟨qn j,y j,0⟩,A2,c2'⟩:WE):=by simpa using he
          rw[this]
          exact ci.of_clone hp1 hp9 hc2 HBY.out hR2
        exact hx.keep hK9 (fun j ⟨a,ha,e2⟩ hr=>T9.dis j (by rw[e2];exact T9.wq a ha) hr)
       have hlen9:(lq++[(⟨⟨qn j,y j,0⟩,A2,c2'⟩:WE)]).length=ql+1:=by rw[List.length_append,HPL2.out];rfl
       have hSL9':SL wA 96 2 A9 (lq++[(⟨⟨qn j,y j,0⟩,A2,c2'⟩:WE)]).length c9 ((lq++[(⟨⟨qn j,y j,0⟩,A2,c2'⟩:WE)]).flatMap WE.cells):=by
        rw[hlen9,List.flatMap_append]
        exact hSL9
       have TF:=T9.setQ hK9 hA9n hSL9' hpk9;rw[hlen9]at TF;have hbA:Below Bn w3 wA:=aa.below ((show Below Bn w3 W6 from B6.out).trans (hb2.mono hs6)) (hK9.mono (G:=W) (fun j ⟨a,ha,e2⟩=>by rw[e2];exact T2.wq a ha)) RR.out.wB (ba hs6 hb2.size);have hsA:Bn<=wA.heap.size:=ba (ba hs6 hb2.size) hK9.size;have hsn:Bn<=w2'.heap.size:=ba hs6 hb2.size;have hRBx:∀j,(R j\/∃a,A2=some a/\j=a.block)->Bn<=j:=fun j hr=>by
        rcases hr with hr | ⟨a,ha,e⟩
        ·exact RR.out.rB j hr
        ·have:=hFl a ha;have:=hbF;omega
       have hWBx:∀j,(W j\/∃a,A9=some a/\j=a.block)->Bn<=j:=fun j hr=>by
        rcases hr with hr | ⟨a,ha,e⟩
        ·exact RR.out.wB j hr
        ·rcases hA9n a ha with ⟨a',ha',e'⟩ | hge
         ·have:=RR.out.wB a'.block (T2.wq a' ha');omega
         ·omega
       have HTF:=zh TF;have HBF:=zh (show Below Bn w3 (wA.setCell ⟨g,42,none⟩ (.slice A9 (ql+1) c9))from hbA.setCell (p:=⟨g,42,none⟩) hgB _);have HRB:=zh hRBx;have HWB:=zh hWBx;have hS9:aa (fun j=>j=g\/∃a,qA=some a/\j=a.block) W6 (wA.setCell ⟨g,42,none⟩ (.slice A9 (ql+1) c9)):=hHeld.setCell (p:=⟨g,42,none⟩) (.inl rfl) _;clear TF hSL9 hSL9' hpk9 hK9 hA9 hA9n T9 hg9 hSL hRBx hWBx hbA;go_simp;refine hK.out _ _ hS9 (fun hHeld=>?_);clear hK K hS9
       try simp only[Act.put]
       refine wpAnyH_done (by kernel_rfl) ?_ _;go_wp2;go_roundw
       case rel=>first | exact⟨j+1,_,_,_,_,_,by omega,by go_num,HST.out _ _ _ _ _ _ _ HTF.out,HWB.out,HRB.out,HBF.out⟩ | ((repeat apply Exists.intro);exact⟨⟨by omega,by go_num,HST.out _ _ _ _ _ _ _ HTF.out,HWB.out,HRB.out,HBF.out⟩,rfl⟩)
       case measure=>simp[intOf];omega
     ·obtain rfl:j=mq:=by omega
      go_wp2;go_ret2
      exact⟨g,W,R,rfl,⟨_,_,_,_,_,_,_,_,RR.out.t⟩,fun i hi=>ba hbw (RR.out.wB i hi),fun i hi=>ba hbw (RR.out.rB i hi),D3.out.trans (RR.out.b.mono hbw)⟩
end Go.Proofs.YtiiojpnckbglcaaGreat
namespace Go.Proofs.YtiiojpnckbglcaaGreat
open Go.RowKit
def PE.cc (e:PE):List Value:=[.int .u32 e.v.ct,.slice e.A e.v.n e.c]
def WE.cc (e:WE):List Value:=[.slice e.A e.v.n e.c]
theorem qC:∃i:TypeInfo,Tryz.prog.info? 68 = some i/\i.zero=some (.agg #[.int .u32 0,.slice none 0 0])/\i.size=2/\i.bytes=32:=by
 have h:(Tryz.prog.info? 68).map (fun i=>(i.zero,i.size,i.bytes))=some (some (.agg #[.int .u32 0,.slice none 0 0]),2,32):=by kernel_rfl
 cases hi:Tryz.prog.info? 68 with
 | none=>rw[hi]at h;cases h
 | some i=>
  rw[hi]at h;simp only[Option.map_some,Option.some.injEq,Prod.mk.injEq]at h
  exact⟨i,rfl,h.1,h.2.1,h.2.2⟩
theorem xS:∃i:TypeInfo,Tryz.prog.info? 44 = some i/\i.zero=some (.slice none 0 0)/\i.size=1/\i.bytes=24:=by
 have h:(Tryz.prog.info? 44).map (fun i=>(i.zero,i.size,i.bytes))=some (some (.slice none 0 0),1,24):=by kernel_rfl
 cases hi:Tryz.prog.info? 44 with
 | none=>rw[hi]at h;cases h
 | some i=>
  rw[hi]at h;simp only[Option.map_some,Option.some.injEq,Prod.mk.injEq]at h
  exact⟨i,rfl,h.1,h.2.1,h.2.2⟩
section
variable {w w1 w':World} {B rb:Nat} {nx:Int} {us:Bool} {W R R' F:Nat->Prop} {qA qA':Option Addr} {qc qc':Nat} {lq lq':List WE} {pA pA':Option Addr} {pc pc':Nat} {lp lp':List PE}
end
end Go.Proofs.YtiiojpnckbglcaaGreat
namespace Go.Proofs.YtiiojpnckbglcaaGreat
open Go.RowKit
attribute [local go_sem ↓] Go.wp_at_zero Go.wp_at_succ
section
variable {P:Program}
theorem jO (w:World) (t tx ty e:TypeId) (i:TypeInfo) (sz:Nat) (ht:P.underlying t=some (.slice e)) (hi:P.info? e=some i) (hsize:i.size=sz)
  {b o n c:Nat} {xs:List Value} (h:SL w e sz (some ⟨b,o,none⟩) n c xs) (x:Value) (m:Nat) (news:List Value) (hs:Src P sz tx x m news w) (hroom:n+m<=c) :
  ∃w',(Builtin.append_ #[t,tx] ty #[.slice (some ⟨b,o,none⟩) n c,x]).run P w=.ok (.slice (some ⟨b,o,none⟩) (n+m) c) w'/\SL w' e sz (some ⟨b,o,none⟩) (n+m) c (xs++news)/\aa (fun k=>k=b) w w':=by
 subst hsize;have hlen:(xs++news).length=(n+m)*i.size:=by rw[List.length_append,h.len,hs.newsLen,Nat.add_mul]
 rcases h.at_ with ⟨hA,_⟩ | ⟨b',o',cur,hA,h2,h3,h4,h5,h6⟩
 ·cases hA
 cases hA
 rcases Nat.eq_zero_or_pos m with rfl | hm
 ·have hn0:news=[]:=List.eq_nil_of_length_eq_zero (by rw[hs.newsLen];simp);subst hn0
  exact⟨w,run_append_nothing w t tx ty e i ht hi _ n c h3 x hs,by simpa using h,aa.refl⟩
 have hB:ae w b e cur:=h2;have hle:o+(n+m)*i.size<=cur.size:=ba (Nat.add_le_add_left (Nat.mul_le_mul_right _ hroom) _) h5;have hnl:=hs.newsLen;have hadd:(n+m)*i.size=n*i.size+news.length:=by rw[Nat.add_mul,hnl]
 have hr:=run_append_room_src (P:=P) w t tx ty e i ht hi b o n c x m news hs hroom (fun j hj=>by rw[hB.cell];rw[Array.getElem?_eq_getElem (by omega)];rfl) (fun j _=>hB.frozen _);refine⟨_,hr,⟨hlen,.inr ⟨b,o,_,rfl,bY news (o+n*i.size) w cur hB,hroom,h4,by rw[bL];exact h5,fun j hj=>?_⟩⟩,gc (F:=fun k=>k=b) (b:=b) rfl news _ w⟩;by_cases hjn:j < n*i.size
 ·rw[cG news _ cur _ (.inl (by omega)),h6 j hjn,List.getElem?_append_left (by rw[h.len];exact hjn)]
 ·have:=dY news (o+n*i.size) cur (j-n*i.size) (by omega) (by omega);rw[show o+n*i.size+(j-n*i.size)=o+j by omega]at this;rw[this,List.getElem?_append_right (by rw[h.len];omega),h.len]
end
theorem SL.take {w:World} {e:TypeId} {sz:Nat} {A:Option Addr} {n c:Nat} {xs:List Value} (h:SL w e sz A n c xs) (k:Nat) (hk:k<=n):SL w e sz A k c (xs.take (k*sz)):=by
 have hm:k*sz<=n*sz:=Nat.mul_le_mul_right _ hk;refine⟨by rw[List.length_take,h.len];omega,?_⟩;rcases h.at_ with ⟨h1,h2,h3⟩ | ⟨b,o,cur,h1,h2,h3,h4,h5,h6⟩
 ·exact .inl ⟨h1,by omega,h3⟩
 ·exact .inr ⟨b,o,cur,h1,h2,by omega,h4,h5,fun j hj=>by rw[h6 j (by omega),List.getElem?_take,if_pos hj]⟩
theorem SL.past {w:World} {e:TypeId} {sz:Nat} {b o n c:Nat} {xs:List Value} (h:SL w e sz (some ⟨b,o,none⟩) n c xs) (k:Nat) (hk:n*sz<=k) (cs:List Value):SL (w.setCells b (o+k) cs) e sz (some ⟨b,o,none⟩) n c xs:=by
 refine⟨h.len,?_⟩;rcases h.at_ with ⟨h1,h2,h3⟩ | ⟨b',o',cur,h1,h2,h3,h4,h5,h6⟩
 ·cases h1
 ·cases h1
  exact .inr ⟨b,o,_,rfl,bY cs (o+k) w cur h2,h3,h4,by rw[bL];exact h5,fun j hj=>by rw[cG cs _ cur _ (.inl (by omega)),h6 j hj]⟩
theorem SL.room {w:World} {e:TypeId} {sz:Nat} {b o n c:Nat} {xs:List Value} (h:SL w e sz (some ⟨b,o,none⟩) n c xs) {j:Nat} (hj:j < c*sz):(w.cell? ⟨b,o+j,none⟩).isSome=true:=by
 rcases h.at_ with ⟨h1,h2,h3⟩ | ⟨b',o',cur,h1,h2,h3,h4,h5,h6⟩
 ·cases h1
 ·cases h1
  rw[(show ae w b e cur from h2).cell,Array.getElem?_eq_getElem (by omega)]
  rfl
theorem oO {P:Program} {op:Oper} {a:Act} {K:Act->World->Prop} {Q:Exit->Act->World->Prop} (s x:Operand) (t tx:TypeId) (ho:op.op=.call { callee:=.builtin .append,args:=#[s,x],argTypes:=#[t,tx] })
  (w:World) (e:TypeId) (i:TypeInfo) (sz:Nat) (ht:P.underlying t=some (.slice e)) (hi:P.info? e=some i) (hsize:i.size=sz) (b o n c:Nat) (xs:List Value) (hsv:a.eval s=.slice (some ⟨b,o,none⟩) n c) (h:SL w e sz (some ⟨b,o,none⟩) n c xs)
  (xv:Value) (hxv:a.eval x=xv) (m:Nat) (news:List Value) (hs:Src P sz tx xv m news w) (hroom:n+m<=c)
  (hK:∀w',SL w' e sz (some ⟨b,o,none⟩) (n+m) c (xs++news)->aa (fun k=>k=b) w w'->K (a.put op.dst (.slice (some ⟨b,o,none⟩) (n+m) c)) w'):op.wp P a w K Q:=by
 have hf:=fun ty=>@jO P w t tx ty e i sz ht hi hsize b o n c xs h xv m news hs hroom;obtain⟨w',hrun,h1,h2⟩:=hf op.type;unfold Oper.wp execOp;simp only[ho,resolve,invoke,builtin,Sem.run_bind,Sem.run_pure,Result.andThen_ok,List.map_toArray,List.map_cons,List.map_nil,hsv,hxv,hrun]
 exact hK w' h1 h2
end Go.Proofs.YtiiojpnckbglcaaGreat

import Derived.Test.YtjanmleoomoedaaGreatNA
import Derived.Test.YtjanmleoomoedaaGreatApp
import Derived.Test.YtjanmleoomoedaaGreatStr
import Derived.Test.YtjanmleoomoedaaGreatHN
import Derived.Test.YtjanmleoomoedaaGreatTA
import Derived.BigGuardPart
import Derived.BigQuiet
import Derived.Deep.DeepFit
import Derived.Deep.OwnRows
import Derived.Deep.QuietTactic
import Derived.Handy
import Derived.KernelRfl
import Derived.ScopeJumps
import Derived.WalkLawsBesides
import Derived.WalkMore
import Derived.WalkSpells
import Derived.RegionTactic
import Derived.ChangeAlike
import Derived.RangeFuncNested
import Derived.RangeFuncBound
import Derived.RangeFuncCalls
import Derived.RangeFuncLeaves
import Derived.Shelf.Abstract
import Derived.Shelf.RegionOpen
import Derived.WalkKit
import Derived.OwnWalkIn
import Derived.TacticsInMore
import Derived.LoopNIn
import Derived.LoopIn
import Derived.RangeFuncBox
import Derived.Deep.RegionHeld3
import Derived.Laws.BitsAllLaws
import Derived.Maps.OwnSet
namespace Go.Proofs.YtjanmleoomoedaaGreat
open Go.RowKit
private theorem zh {p:Prop} (h:p):Hid p:=h
structure Cnts (w:World) (A:Option Addr) (m:Nat) (ct:Nat→Int) (PA:Nat→Option Addr) (pn pc:Nat→Nat) (z:Nat→Nat→Int):Prop where
 at_:m ≠ 0→∃lb lo,A=some ⟨lb,lo,none⟩∧lb < w.heap.size∧∀k,k < m→w.cell? ⟨lb,lo+k*2,none⟩=some (.int .u32 (ct k))∧w.cell? ⟨lb,lo+k*2+1,none⟩=some (.slice (PA k) (pn k) (pc k))
 rng:∀k,k < m→0≤ct k∧ct k < 4294967296
 len:∀k,k < m→pn k≤9223372036854775807
 cap:∀k,k < m→pn k≤pc k
 byte:∀k,k < m→∀j,j < pn k→0≤z k j∧z k j < 256
 row:∀k,k < m→Row w w.heap.size (PA k) (pn k) (fun j=>.int .u8 (z k j))
theorem Cnts.below {w w':World} {A:Option Addr} {m:Nat} {ct:Nat→Int} {PA:Nat→Option Addr} {pn pc:Nat→Nat} {z:Nat→Nat→Int} (h:Cnts w A m ct PA pn pc z) (hb:Below w.heap.size w w'):Cnts w' A m ct PA pn pc z:=
 ⟨fun hm=>by
  obtain⟨lb,lo,e,hlt,hc⟩:=h.at_ hm
  exact⟨lb,lo,e,Nat.lt_of_lt_of_le hlt hb.size,fun k hk=>⟨(hb.cell (p:=⟨lb,lo+k*2,none⟩) hlt).trans (hc k hk).1,(hb.cell (p:=⟨lb,lo+k*2+1,none⟩) hlt).trans (hc k hk).2⟩⟩,h.rng,h.len,h.cap,h.byte,fun k hk=>(h.row k hk).next hb⟩
theorem blk_atZ (W:World) (t:TypeId) (cs:Array Value) (N:Nat) (hN:W.heap.size=N):Blk (W.alloc (.cells cs t)) N t cs:=by
 subst hN;exact Blk.new W t cs
end Go.Proofs.YtjanmleoomoedaaGreat
namespace Go.Proofs.YtjanmleoomoedaaGreat
open Go.RowKit
set_option linter.unusedVariables false
structure Cfg where
 b:Int
 d:Int
 key:Nat→Int
 code:Nat→Int
 ig:Bool
 cm:Bool
 ac:Bool
 ds:Int
 ro:Int
def Cfg.cell (c:Cfg) (j:Nat):Value:=
 if j=0 then .int .i64 c.b else if j=1 then .int .i64 c.d else if j < 18 then .int .u8 (c.key (j-2)) else if j < 34 then .int .u8 (c.code (j-18)) else if j=34 then .bool c.ig else if j=35 then .bool c.cm else if j=36 then .bool c.ac else if j=37 then .int .i64 c.ds else .int .i64 c.ro
def Cfg.arr (c:Cfg):Array Value:=Array.ofFn (n:=39) fun j=>c.cell j.1
theorem Cfg.arr_size (c:Cfg):c.arr.size=39:=by simp[Cfg.arr]
theorem Cfg.arr_at (c:Cfg) {j:Nat} (hj:j < 39):c.arr[j]? = some (c.cell j):=by unfold Cfg.arr;simp[hj]
theorem Cfg.cell_one (c:Cfg) (j:Nat):(c.cell j).oneCell'=true:=by
 unfold Cfg.cell
 repeat (split<;>try rfl)
theorem Cfg.arr_one (c:Cfg):c.arr.all (·.oneCell')=true:=by
 rw[Array.all_eq_true]
 intro i hi
 simp only[Cfg.arr,Array.getElem_ofFn]
 exact c.cell_one i
structure Cfg.Ok (c:Cfg):Prop where
 key:∀j,j < 16→0≤c.key j∧c.key j < 256
 code:∀j,j < 16→0≤c.code j∧c.code j < 256
def Cfg.Valid (c:Cfg):Prop:=0≤c.b∧c.b≤31∧(c.d=0∨c.d=1)∧0≤c.ds∧c.ds≤1073741824∧0≤c.ro∧c.ro≤1073741824
instance Cfg.decValid (c:Cfg):Decidable c.Valid:=by unfold Cfg.Valid;infer_instance
def Cfg.zero:Cfg:=⟨0,0,fun _=>0,fun _=>0,false,false,false,0,0⟩
structure QV where
 n:Nat
 z:Nat→Int
 at_:Int
structure PV where
 ct:Int
 n:Nat
 z:Nat→Int
 rep:Bool
structure WE where
 v:QV
 A:Option Addr
 c:Nat
structure PE where
 v:PV
 A:Option Addr
 c:Nat
def WE.cells (e:WE):List Value:=[.slice e.A e.v.n e.c,.int .i64 e.v.at_]
def PE.cells (e:PE):List Value:=[.int .u32 e.v.ct,.slice e.A e.v.n e.c,.bool e.v.rep]
theorem WE.len (e:WE):e.cells.length=2:=rfl
theorem PE.len (e:PE):e.cells.length=3:=rfl
structure Pkt (w:World) (R:Nat→Prop) (A:Option Addr) (n c:Nat) (z:Nat→Int):Prop where
 pos:1≤n
 max:n≤9000
 cap:n≤c
 byte:∀j,j < n→0≤z j∧z j < 256
 row:Row w w.heap.size A n (fun j=>.int .u8 (z j))
 ro:∀a,A=some a→R a.block
theorem Pkt.keep {F R:Nat→Prop} {w w':World} {A:Option Addr} {n c:Nat} {z:Nat→Int} (h:Pkt w R A n c z) (hk:KeepF F w w') (hF:∀k,F k→¬R k):Pkt w' R A n c z:=
 ⟨h.pos,h.max,h.cap,h.byte,(hk.row h.row (Nat.le_refl _) (fun a e _ hf=>hF _ hf (h.ro a e))).more hk.size,h.ro⟩
theorem Pkt.mono {R R':Nat→Prop} {w:World} {A:Option Addr} {n c:Nat} {z:Nat→Int} (h:Pkt w R A n c z) (hR:∀k,R k→R' k):Pkt w R' A n c z:=
 ⟨h.pos,h.max,h.cap,h.byte,h.row,fun a e=>hR _ (h.ro a e)⟩
def tArr (C:Array Value) (made:Bool) (now next:Int) (q p:Value) (ub cb:Nat):Array Value:=C++#[.bool made,.int .i64 now,.int .u64 next,q,p,.map (some ub),.pointer (some ⟨cb,0,none⟩)]
section
variable {C:Array Value} {made:Bool} {now next:Int} {q p:Value} {ub cb:Nat}
theorem tArr_size (hC:C.size=39):(tArr C made now next q p ub cb).size=46:=by simp[tArr,hC]
theorem tArr_low (hC:C.size=39) {j:Nat} (hj:j < 39):(tArr C made now next q p ub cb)[j]? = C[j]?:=by
 unfold tArr
 rw[Array.getElem?_append_left (by omega)]
theorem tArr_high (hC:C.size=39) (j:Nat):(tArr C made now next q p ub cb)[39+j]? = (#[.bool made,.int .i64 now,.int .u64 next,q,p,.map (some ub),.pointer (some ⟨cb,0,none⟩)]:Array Value)[j]?:=by
 unfold tArr
 rw[Array.getElem?_append_right (by omega),hC,show 39+j-39=j by omega]
theorem tArr_set (hC:C.size=39) (j:Nat) (v:Value):(tArr C made now next q p ub cb).setIfInBounds (39+j) v=C++(#[.bool made,.int .i64 now,.int .u64 next,q,p,.map (some ub),.pointer (some ⟨cb,0,none⟩)]:Array Value).setIfInBounds j v:=by
 unfold tArr
 rw[Array.setIfInBounds_append_right (by omega),hC,show 39+j-39=j by omega]
theorem tArr_now (hC:C.size=39) (x:Int):(tArr C made now next q p ub cb).setIfInBounds 40 (.int .i64 x)=tArr C made x next q p ub cb:=tArr_set hC 1 _
theorem tArr_next (hC:C.size=39) (x:Int):(tArr C made now next q p ub cb).setIfInBounds 41 (.int .u64 x)=tArr C made now x q p ub cb:=tArr_set hC 2 _
theorem tArr_q (hC:C.size=39) (x:Value):(tArr C made now next q p ub cb).setIfInBounds 42 x=tArr C made now next x p ub cb:=tArr_set hC 3 _
theorem tArr_p (hC:C.size=39) (x:Value):(tArr C made now next q p ub cb).setIfInBounds 43 x=tArr C made now next q x ub cb:=tArr_set hC 4 _
end
def UK (w:World) (ub:Nat) (L:List (Array Value)):Prop:=∃es c,w.heap[ub]? = some (.map es c)∧es.toList.map (·.key)=L.map Value.agg∧∀e,e∈es.toList→e.val=.bool true
theorem UK.lt {w:World} {ub:Nat} {L:List (Array Value)} (h:UK w ub L):ub < w.heap.size:=by
 obtain⟨es,c,h1,_⟩:=h
 exact(Array.getElem?_eq_some_iff.1 h1).1
theorem UK.keep {w w':World} {ub:Nat} {L:List (Array Value)} (h:UK w ub L) (hk:w'.heap[ub]? = w.heap[ub]?):UK w' ub L:=by
 obtain⟨es,c,h1,h2⟩:=h
 exact⟨es,c,hk.trans h1,h2⟩
structure TS where
 C:Cfg
 now:Int
 next:Int
 Q:List QV
 P:List PV
 used:List (Array Value)
 comp:Obj
structure TxM (w:World) (g:Nat) (s:TS) (W R:Nat→Prop) (qA:Option Addr) (qc:Nat) (lq:List WE) (pA:Option Addr) (pc:Nat) (lp:List PE) (ub cb:Nat):Prop where
 blk:Blk w g 66 (tArr s.C.arr true s.now s.next (.slice qA lq.length qc) (.slice pA lp.length pc) ub cb)
 qv:lq.map (·.v)=s.Q
 pv:lp.map (·.v)=s.P
 q:SL w 71 2 qA lq.length qc (lq.flatMap WE.cells)
 p:SL w 69 3 pA lp.length pc (lp.flatMap PE.cells)
 u:UK w ub s.used
 k:w.heap[cb]? = some s.comp
 qe:∀e,e∈lq→Pkt w R e.A e.v.n e.c e.v.z
 pe:∀e,e∈lp→Pkt w R e.A e.v.n e.c e.v.z
 pr:∀e,e∈s.P→0≤e.ct∧e.ct < 4294967296
 wg:W g
 wu:W ub
 wc:W cb
 wq:∀a,qA=some a→W a.block
 wp:∀a,pA=some a→W a.block
 kg:cb ≠ g
 ku:cb ≠ ub
 kq:∀a,qA=some a→cb ≠ a.block
 kp:∀a,pA=some a→cb ≠ a.block
 dis:∀k,W k→R k→False
 win:∀k,W k→k < w.heap.size
 rin:∀k,R k→k < w.heap.size
 now0:0≤s.now∧s.now < 1073741824
 next0:0≤s.next∧s.next≤4294967296
def TxI (w:World) (g:Nat) (s:TS) (W R:Nat→Prop):Prop:=∃qA qc lq pA pc lp ub cb,TxM w g s W R qA qc lq pA pc lp ub cb
section
variable {w w':World} {g:Nat} {s:TS} {W R F:Nat→Prop} {qA:Option Addr} {qc:Nat} {lq:List WE} {pA:Option Addr} {pc:Nat} {lp:List PE} {ub cb:Nat}
theorem TxM.keepF (h:TxM w g s W R qA qc lq pA pc lp ub cb) (hk:KeepF F w w') (hF:∀k,F k→¬W k∧¬R k):TxM w' g s W R qA qc lq pA pc lp ub cb:=
 ⟨hk.blk h.blk (fun hf=>(hF _ hf).1 h.wg),h.qv,h.pv,h.q.keepF hk (fun a e hf=>(hF _ hf).1 (h.wq a e)),h.p.keepF hk (fun a e hf=>(hF _ hf).1 (h.wp a e)),h.u.keep (hk.block _ h.u.lt (fun hf=>(hF _ hf).1 h.wu)),
  (hk.block _ (h.win _ h.wc) (fun hf=>(hF _ hf).1 h.wc)).trans h.k,fun e he=>(h.qe e he).keep hk (fun k hf=>(hF k hf).2),fun e he=>(h.pe e he).keep hk (fun k hf=>(hF k hf).2),h.pr,h.wg,h.wu,h.wc,h.wq,h.wp,h.kg,h.ku,h.kq,h.kp,h.dis,
  fun k hk'=>Nat.lt_of_lt_of_le (h.win k hk') hk.size,fun k hk'=>Nat.lt_of_lt_of_le (h.rin k hk') hk.size,h.now0,h.next0⟩
theorem TxM.below (h:TxM w g s W R qA qc lq pA pc lp ub cb) (hb:Below w.heap.size w w'):TxM w' g s W R qA qc lq pA pc lp ub cb:=
 h.keepF (F:=fun _=>False) (KeepF.of_below hb) (fun _ hf=>hf.elim)
theorem TxI.keepF (h:TxI w g s W R) (hk:KeepF F w w') (hF:∀k,F k→¬W k∧¬R k):TxI w' g s W R:=by
 obtain⟨qA,qc,lq,pA,pc,lp,ub,cb,h⟩:=h
 exact⟨qA,qc,lq,pA,pc,lp,ub,cb,h.keepF hk hF⟩
theorem TxI.below (h:TxI w g s W R) (hb:Below w.heap.size w w'):TxI w' g s W R:=
 h.keepF (F:=fun _=>False) (KeepF.of_below hb) (fun _ hf=>hf.elim)
theorem TxM.made (h:TxM w g s W R qA qc lq pA pc lp ub cb):w.cell? ⟨g,39,none⟩=some (.bool true):=(h.blk.cell 39).trans (tArr_high s.C.arr_size 0)
theorem TxM.cnow (h:TxM w g s W R qA qc lq pA pc lp ub cb):w.cell? ⟨g,40,none⟩=some (.int .i64 s.now):=(h.blk.cell 40).trans (tArr_high s.C.arr_size 1)
theorem TxM.cnext (h:TxM w g s W R qA qc lq pA pc lp ub cb):w.cell? ⟨g,41,none⟩=some (.int .u64 s.next):=(h.blk.cell 41).trans (tArr_high s.C.arr_size 2)
theorem TxM.cq (h:TxM w g s W R qA qc lq pA pc lp ub cb):w.cell? ⟨g,42,none⟩=some (.slice qA lq.length qc):=(h.blk.cell 42).trans (tArr_high s.C.arr_size 3)
theorem TxM.cp (h:TxM w g s W R qA qc lq pA pc lp ub cb):w.cell? ⟨g,43,none⟩=some (.slice pA lp.length pc):=(h.blk.cell 43).trans (tArr_high s.C.arr_size 4)
theorem TxM.cu (h:TxM w g s W R qA qc lq pA pc lp ub cb):w.cell? ⟨g,44,none⟩=some (.map (some ub)):=(h.blk.cell 44).trans (tArr_high s.C.arr_size 5)
theorem TxM.cc (h:TxM w g s W R qA qc lq pA pc lp ub cb):w.cell? ⟨g,45,none⟩=some (.pointer (some ⟨cb,0,none⟩)):=(h.blk.cell 45).trans (tArr_high s.C.arr_size 6)
theorem TxM.cC (h:TxM w g s W R qA qc lq pA pc lp ub cb) {j:Nat} (hj:j < 39):w.cell? ⟨g,j,none⟩=some (s.C.cell j):=(h.blk.cell j).trans ((tArr_low s.C.arr_size hj).trans (s.C.arr_at hj))
theorem TxM.qcell (h:TxM w g s W R qA qc lq pA pc lp ub cb) {k:Nat} {e:WE} (hk:lq[k]? = some e):∃b o,qA=some ⟨b,o,none⟩∧b < w.heap.size∧w.cell? ⟨b,o+k*2,none⟩=some (.slice e.A e.v.n e.c)∧w.cell? ⟨b,o+k*2+1,none⟩=some (.int .i64 e.v.at_):=by
 have hlt:k < lq.length:=(List.getElem?_eq_some_iff.1 hk).1
 obtain⟨b,o,hA,hb⟩:=h.q.some_ (by omega)
 refine⟨b,o,hA,hb,?_,?_⟩
 ·have:=h.q.cell hA (j:=k*2+0) (by omega)
  rw[flat_at WE.cells 2 WE.len lq k 0 e hk (by omega)]at this
  exact this
 ·have:=h.q.cell hA (j:=k*2+1) (by omega)
  rw[flat_at WE.cells 2 WE.len lq k 1 e hk (by omega)]at this
  exact this
theorem TxM.pcell (h:TxM w g s W R qA qc lq pA pc lp ub cb) {k:Nat} {e:PE} (hk:lp[k]? = some e):∃b o,pA=some ⟨b,o,none⟩∧b < w.heap.size∧w.cell? ⟨b,o+k*3,none⟩=some (.int .u32 e.v.ct)∧w.cell? ⟨b,o+k*3+1,none⟩=some (.slice e.A e.v.n e.c)∧w.cell? ⟨b,o+k*3+2,none⟩=some (.bool e.v.rep):=by
 have hlt:k < lp.length:=(List.getElem?_eq_some_iff.1 hk).1
 obtain⟨b,o,hA,hb⟩:=h.p.some_ (by omega)
 refine⟨b,o,hA,hb,?_,?_,?_⟩
 ·have:=h.p.cell hA (j:=k*3+0) (by omega)
  rw[flat_at PE.cells 3 PE.len lp k 0 e hk (by omega)]at this
  exact this
 ·have:=h.p.cell hA (j:=k*3+1) (by omega)
  rw[flat_at PE.cells 3 PE.len lp k 1 e hk (by omega)]at this
  exact this
 ·have:=h.p.cell hA (j:=k*3+2) (by omega)
  rw[flat_at PE.cells 3 PE.len lp k 2 e hk (by omega)]at this
  exact this
end
def TxO (W R:Nat→Prop) (w w':World) (g:Nat) (s:TS):Prop:=∃W' R',TxI w' g s W' R'∧(∀k,W' k→W k∨w.heap.size≤k)∧(∀k,R' k→R k∨w.heap.size≤k)∧KeepF W w w'
theorem TxO.same {W R:Nat→Prop} {w w':World} {g:Nat} {s:TS} (h:TxI w g s W R) (hb:Below w.heap.size w w'):TxO W R w w' g s:=⟨W,R,h.below hb,fun _ h=>.inl h,fun _ h=>.inl h,KeepF.of_below hb⟩
end Go.Proofs.YtjanmleoomoedaaGreat
namespace Go.Proofs.YtjanmleoomoedaaGreat
open Go.RowKit
set_option linter.unusedVariables false
attribute [local go_sem ↓] Go.wp_at_zero Go.wp_at_succ
theorem infoPd:(Tryz.prog.info? 25).map (·.size)=some 39:=by kernel_rfl
theorem tmade_ok (g:Nat) (s:TS) (W R:Nat→Prop) (w:World) (h:TxI w g s W R):Calls Tryz.prog 43 #[.pointer (some ⟨g,0,none⟩)] w fun e w'=>e=.returned (.bool false)∧w=w':=by
 obtain⟨qA,qc,lq,pA,pc,lp,ub,cb,h⟩:=h
 have h2:=h.made
 clear h
 go_enter Tryz.func43,Tryz.ntmps43
 go_wp2
 go_ret
 exact⟨rfl,rfl⟩
set_option maxRecDepth 100000 in
set_option maxHeartbeats 1600000 in
theorem tvalid_ok (c:Cfg) (w:World):Calls Tryz.prog 18 #[.agg c.arr] w fun e w'=>e=.returned (.bool (decide c.Valid))∧Below w.heap.size w w':=by
 have h0:c.arr[0]? = some (.int .i64 c.b):=c.arr_at (by decide)
 have h1:c.arr[1]? = some (.int .i64 c.d):=c.arr_at (by decide)
 have h2:c.arr[37]? = some (.int .i64 c.ds):=c.arr_at (by decide)
 have h3:c.arr[38]? = some (.int .i64 c.ro):=c.arr_at (by decide)
 have HV:=zh (show c.Valid↔(0≤c.b∧c.b≤31∧(c.d=0∨c.d=1)∧0≤c.ds∧c.ds≤1073741824∧0≤c.ro∧c.ro≤1073741824)from Iff.rfl)
 obtain⟨V,hV⟩:∃V,V=decide c.Valid:=⟨_,rfl⟩
 have HD:=zh (show V=true↔c.Valid from by rw[hV];exact decide_eq_true_iff)
 obtain⟨Z,hZ⟩:∃Z,Z=c.arr:=⟨_,rfl⟩
 rw[←hV]
 rw[←hZ]at h0 h1 h2 h3 ⊢
 obtain⟨b,hb⟩:∃b,b=c.b:=⟨_,rfl⟩
 obtain⟨d,hd⟩:∃d,d=c.d:=⟨_,rfl⟩
 obtain⟨ds,hds⟩:∃ds,ds=c.ds:=⟨_,rfl⟩
 obtain⟨ro,hro⟩:∃ro,ro=c.ro:=⟨_,rfl⟩
 rw[←hb]at h0 HV
 rw[←hd]at h1 HV
 rw[←hds]at h2 HV
 rw[←hro]at h3 HV
 clear hZ hV hb hd hds hro
 go_enter Tryz.func18,Tryz.ntmps18
 go_upto_region 1 with (fail)
 refine wp_let (fun W=>Blk W w.heap.size 25 Z∧Below w.heap.size w W) ⟨Blk.new _ _ _,(Below.refl _ w).alloc (Nat.le_refl _) _⟩ ?_
 rintro W1 ⟨b1,b2⟩
 have x0:=(b1.cell 0).trans h0
 have x1:=(b1.cell 1).trans h1
 have x2:=(b1.cell 37).trans h2
 have x3:=(b1.cell 38).trans h3
 have HB:=zh b2
 clear b1 b2 h0 h1 h2 h3
 have hout:∀r:Bool,(r=true↔(0≤b∧b≤31∧(d=0∨d=1)∧0≤ds∧ds≤1073741824∧0≤ro∧ro≤1073741824))→r=V:=fun r hr=>by
  rw[Bool.eq_iff_iff,hr,HD.out,HV.out]
 have HO:=zh hout
 clear hout
 by_cases c0:b < 0
 ·go_wp2
  go_ret
  exact⟨ret_bool (HO.out _ ⟨fun h=>(by cases h),fun h=>(by omega)⟩),HB.out⟩
 by_cases c1:31 < b
 ·go_wp2
  go_ret
  exact⟨ret_bool (HO.out _ ⟨fun h=>(by cases h),fun h=>(by omega)⟩),HB.out⟩
 by_cases c2:d=0∨d=1
 rotate_left
 ·have d0:(d != 0)=true:=by simp;omega
  have d1:(d != 1)=true:=by simp;omega
  go_wp2
  go_ret
  exact⟨ret_bool (HO.out _ ⟨fun h=>(by cases h),fun h=>(by omega)⟩),HB.out⟩
 have hdd:(d != 0 && d != 1)=false:=by rcases c2 with rfl | rfl<;>rfl
 by_cases c3:0≤ds
 rotate_left
 ·rcases c2 with rfl | rfl<;>
  ·go_wp2
   go_ret
   exact⟨ret_bool (HO.out _ ⟨fun h=>(by cases h),fun h=>(by omega)⟩),HB.out⟩
 by_cases c4:ds≤1073741824
 rotate_left
 ·rcases c2 with rfl | rfl<;>
  ·go_wp2
   go_ret
   exact⟨ret_bool (HO.out _ ⟨fun h=>(by cases h),fun h=>(by omega)⟩),HB.out⟩
 by_cases c5:0≤ro
 rotate_left
 ·rcases c2 with rfl | rfl<;>
  ·go_wp2
   go_ret
   exact⟨ret_bool (HO.out _ ⟨fun h=>(by cases h),fun h=>(by omega)⟩),HB.out⟩
 by_cases c6:ro≤1073741824
 rotate_left
 ·rcases c2 with rfl | rfl<;>
  ·go_wp2
   go_ret
   exact⟨ret_bool (HO.out _ ⟨fun h=>(by cases h),fun h=>(by omega)⟩),HB.out⟩
 rcases c2 with rfl | rfl<;>
 ·go_wp2
  go_ret
  exact⟨ret_bool (HO.out _ ⟨fun h=>⟨by omega,by omega,by simp,by omega,by omega,by omega,by omega⟩,fun h=>rfl⟩),HB.out⟩
def nextOf (nx:Int) (us:Bool):Int:=if us then 4294967296 else nx
theorem tnext_ok (nx:Int) (us:Bool) (a b:Value) (w:World) (h:0≤nx∧nx < 4294967296):Calls Tryz.prog 20 #[.agg #[.int .u32 nx,.bool us,a,b]] w fun e w'=>e=.returned (.int .u64 (nextOf nx us))∧Below w.heap.size w w':=by
 have tw:IntKind.u64.wrap nx=nx:=by simp[IntKind.wrap_u64];omega
 have b0:=zh (fun o:Obj=>(Below.refl _ w).alloc (Nat.le_refl _) o)
 cases us
 ·go_enter Tryz.func20,Tryz.ntmps20
  go_wp2
  go_ret
  exact⟨rfl,b0.out _⟩
 ·go_enter Tryz.func20,Tryz.ntmps20
  go_wp2
  go_ret
  exact⟨rfl,b0.out _⟩
def fitsB (n:Nat):Bool:=decide (1≤n∧n≤9000)
theorem fits_ok (A:Option Addr) (n c:Nat) (w:World):Calls Tryz.prog 46 #[.slice A n c] w fun e w'=>e=.returned (.bool (fitsB n))∧w=w':=by
 unfold fitsB
 by_cases h1:(1:Int)≤(n:Int)
 ·by_cases h2:(n:Int)≤9000
  ·go_enter Tryz.func46,Tryz.ntmps46
   go_wp2
   go_ret
   exact⟨ret_bool (by simp;omega),rfl⟩
  ·go_enter Tryz.func46,Tryz.ntmps46
   go_wp2
   go_ret
   exact⟨ret_bool (by simp;omega),rfl⟩
 ·go_enter Tryz.func46,Tryz.ntmps46
  go_wp2
  go_ret
  exact⟨ret_bool (by simp;omega),rfl⟩
theorem fits_not (A:Option Addr) (n c:Nat) (w:World):Calls Tryz.prog 48 #[.slice A n c] w fun e w'=>e=.returned (.bool (!fitsB n))∧w=w':=by
 have HF:=zh (fits_ok A n c w)
 go_enter Tryz.func48,Tryz.ntmps48
 go_wp2_with (go_at_call 46;refine HF.out.mono ?_;rintro e w1 ⟨rfl,rfl⟩)
 go_ret
 exact⟨rfl,rfl⟩
set_option maxRecDepth 100000 in
set_option maxHeartbeats 1600000 in
theorem tconfig_ok (g:Nat) (s:TS) (W R:Nat→Prop) (w:World) (h:TxI w g s W R):Calls Tryz.prog 33 #[.pointer (some ⟨g,0,none⟩)] w fun e w'=>e=.returned (.tuple #[.agg s.C.arr,.int .i64 0])∧Below w.heap.size w w':=by
 have HN:=zh (fun(W':World) (hb:Below w.heap.size w W')=>tmade_ok g s W R W' (h.below hb))
 obtain⟨qA,qc,lq,pA,pc,lp,ub,cb,h⟩:=h
 obtain⟨Z,hZ⟩:∃Z,Z=s.C.arr:=⟨_,rfl⟩
 have HZ:=zh hZ
 have hs:Z.size=39:=by rw[hZ];exact s.C.arr_size
 have hr:w.rangeAt g 0 Z.toList:=fun j v hj=>by
  have hj39:j < 39:=by have:=(List.getElem?_eq_some_iff.1 hj).1;simpa[hs]using this
  rw[Nat.zero_add,h.blk.cell j,tArr_low s.C.arr_size hj39,←hZ]
  simpa using hj
 have hglt:=h.blk.lt
 have HSZ:Hid ((Tryz.prog.info? 25).map (·.size)=some Z.size):=zh (by rw[hs];exact infoPd)
 have HSL:Hid ((Tryz.prog.info? 25).map (·.size)=some Z.toList.length):=zh (by rw[Array.length_toList,hs];exact infoPd)
 have HO:Hid (Z.all (·.oneCell')=true):=zh (by rw[hZ];exact s.C.arr_one)
 have HZZ:Hid (z39.size=Z.size):=zh (by rw[hs];rfl)
 have HR:=zh (fun(W':World) (hb:Below w.heap.size w W')=>(show W'.rangeAt g 0 Z.toList from fun j v hj=>(hb.cell (p:=⟨g,0+j,none⟩) hglt).trans (hr j v hj)))
 clear hr h hs hZ
 go_enter Tryz.func33,Tryz.ntmps33
 go_upto_region 1 with (fail)
 refine wp_let (fun W'=>Blk W' w.heap.size 25 z39∧Below w.heap.size w W') ⟨Blk.new _ _ _,(Below.refl _ w).alloc (Nat.le_refl _) _⟩ ?_
 rintro W1 ⟨b1,b2⟩
 have B1:=zh b1
 have B2:=zh b2
 clear b1 b2
 go_wp2_with (first
  | (go_at_call 43;refine(HN.out _ B2.out).mono ?_;rintro e w1 ⟨rfl,rfl⟩)
  | (refine wpList_load_mid rfl _ _ rfl g 0 rfl Z.toList _ (HR.out _ B2.out) Tryz.underlying25 rfl HSL.out ?_)
  | (refine wpList_store_row rfl _ _ _ rfl w.heap.size Z rfl rfl 25 z39 B1.out HSZ.out HZZ.out HO.out ?_))
 refine bodyPost_ret (v:=.tuple #[.agg Z,.int .i64 0]) (results_cell_one (g:=w.heap.size) (t:=25) (fr:=(0,0)) Tryz.results33 _ _ Z _ rfl (Blk.setRow B1.out) Tryz.underlying25 rfl HSZ.out _ rfl) rfl ⟨by rw[HZ.out],belowRow B2.out (Nat.le_refl _) _⟩
end Go.Proofs.YtjanmleoomoedaaGreat
namespace Go.Proofs.YtjanmleoomoedaaGreat
open Go.RowKit
set_option linter.unusedVariables false
attribute [local go_sem ↓] Go.wp_at_zero Go.wp_at_succ
structure BRows (w:World) (A:Option Addr) (m:Nat) (PA:Nat→Option Addr) (pn pc:Nat→Nat) (z:Nat→Nat→Int):Prop where
 at_:m ≠ 0→∃lb lo,A=some ⟨lb,lo,none⟩∧lb < w.heap.size∧∀k,k < m→w.cell? ⟨lb,lo+k,none⟩=some (.slice (PA k) (pn k) (pc k))
 len:∀k,k < m→pn k≤9223372036854775807
 cap:∀k,k < m→pn k≤pc k
 byte:∀k,k < m→∀j,j < pn k→0≤z k j∧z k j < 256
 row:∀k,k < m→Row w w.heap.size (PA k) (pn k) (fun j=>.int .u8 (z k j))
theorem BRows.below {w w':World} {A:Option Addr} {m:Nat} {PA:Nat→Option Addr} {pn pc:Nat→Nat} {z:Nat→Nat→Int} (h:BRows w A m PA pn pc z) (hb:Below w.heap.size w w'):BRows w' A m PA pn pc z:=
 ⟨fun hm=>by
  obtain⟨lb,lo,e,hlt,hc⟩:=h.at_ hm
  exact⟨lb,lo,e,Nat.lt_of_lt_of_le hlt hb.size,fun k hk=>(hb.cell (p:=⟨lb,lo+k,none⟩) hlt).trans (hc k hk)⟩,h.len,h.cap,h.byte,fun k hk=>(h.row k hk).next hb⟩
def firstP (p:Nat→Bool):Nat→Nat→Int
 | _,0=>-1
 | k,d+1=>if p k=true then (k:Int) else firstP p (k+1) d
theorem firstP_step (p:Nat→Bool) (k n:Nat) (h:k < n):firstP p k (n-k)=if p k=true then (k:Int) else firstP p (k+1) (n-(k+1)):=by
 rw[show n-k=(n-(k+1))+1 by omega];rfl
theorem firstP_some (p:Nat→Bool):∀d k,0≤firstP p k d↔∃j,k≤j∧j < k+d∧p j=true
 | 0,k=>by
  unfold firstP
  exact⟨fun h=>absurd h (by decide),fun⟨j,h1,h2,_⟩=>by omega⟩
 | d+1,k=>by
  unfold firstP
  by_cases hp:p k=true
  ·rw[if_pos hp]
   exact⟨fun _=>⟨k,Nat.le_refl _,by omega,hp⟩,fun _=>Int.natCast_nonneg _⟩
  ·rw[if_neg hp,firstP_some p d (k+1)]
   constructor
   ·rintro ⟨j,h1,h2,h3⟩;exact⟨j,by omega,by omega,h3⟩
   ·rintro ⟨j,h1,h2,h3⟩
    have:j ≠ k:=fun e=>hp (e ▸ h3)
    exact⟨j,by omega,by omega,h3⟩
def anyP (p:Nat→Bool) (n:Nat):Bool:=decide (0≤firstP p 0 n)
theorem anyP_iff (p:Nat→Bool) (n:Nat):anyP p n=true↔∃j,j < n∧p j=true:=by
 unfold anyP
 rw[decide_eq_true_iff,firstP_some]
 exact⟨fun⟨j,_,h2,h3⟩=>⟨j,by omega,h3⟩,fun⟨j,h2,h3⟩=>⟨j,Nat.zero_le _,by omega,h3⟩⟩
set_option maxRecDepth 100000 in
set_option maxHeartbeats 1600000 in
theorem qindex_ok (A:Option Addr) (n c:Nat) (PA:Nat→Option Addr) (pn pc:Nat→Nat) (z:Nat→Nat→Int) (hn:n≤maxLen) (w:World) (hr:BRows w A n PA pn pc z) :
  Calls Tryz.prog 60 #[.slice A n c,.func (.func 48) #[] #[]] w fun e w'=>e=.returned (.int .i64 (firstP (fun k=>!fitsB (pn k)) 0 n))∧w=w':=by
 unfold maxLen at hn
 by_cases hn0:n=0
 ·subst hn0
  go_enter Tryz.func60,Tryz.ntmps60
  go_wp2
  go_loop [8] (fun v=>v=.int .i64 0) (fun _=>0)
  case atStart=>rfl
  case round=>
   subst hrel
   go_wp2
   go_ret
   exact⟨rfl,rfl⟩
 obtain⟨lb,lo,rfl,hlb,hc⟩:=hr.at_ (by omega)
 have HC:=zh hc
 obtain⟨F,hF⟩:∃F,F=fun k=>!fitsB (pn k):=⟨_,rfl⟩
 have HF0:=zh hF
 rw[←hF]
 clear hc hr hF
 go_enter Tryz.func60,Tryz.ntmps60
 go_wp2
 go_loop [8] (fun v=>∃k:Nat,k≤n∧v=.int .i64 k∧firstP F 0 n=firstP F k (n-k)) (fun v=>n-(intOf v).toNat)
 case atStart=>exact⟨0,by omega,rfl,rfl⟩
 case round=>
  obtain⟨k,hk,rfl,hfw⟩:=hrel
  have HF:=zh hfw
  clear hfw
  by_cases hlt:k < n
  ·have c0:w.cell? ⟨lb,lo+k,none⟩=some (.slice (PA k) (pn k) (pc k)):=HC.out k hlt
   have HB:=zh (fits_not (PA k) (pn k) (pc k) w)
   have hFk:F k = !fitsB (pn k):=by rw[HF0.out]
   have HST:=zh (firstP_step F k n hlt)
   obtain⟨b,hb⟩:∃b,b = !fitsB (pn k):=⟨_,rfl⟩
   rw[←hb]at HB hFk
   have HFk:=zh hFk
   clear hb hFk
   cases b
   ·have HS2:=zh (HST.out.trans (if_neg (by rw[HFk.out];decide)))
    go_wp2_with (go_at_call 48;refine(HB.out).mono ?_;rintro e w2 ⟨rfl,rfl⟩)
    go_round
    case rel=>exact⟨k+1,by omega,by go_num,by rw[HF.out,HS2.out]⟩
    case measure=>simp[intOf];omega
   ·have HS2:=zh (HST.out.trans (if_pos HFk.out))
    go_wp2_with (go_at_call 48;refine(HB.out).mono ?_;rintro e w2 ⟨rfl,rfl⟩)
    go_ret
    exact⟨ret_int (by rw[HF.out,HS2.out]),rfl⟩
  ·obtain rfl:k=n:=by omega
   have HF2:=zh (show firstP F 0 k = -1 by rw[HF.out,Nat.sub_self];rfl)
   clear HF
   go_wp2
   go_ret
   exact⟨ret_int HF2.out.symm,rfl⟩
theorem qcontains_ok (A:Option Addr) (n c:Nat) (PA:Nat→Option Addr) (pn pc:Nat→Nat) (z:Nat→Nat→Int) (hn:n≤maxLen) (w:World) (hr:BRows w A n PA pn pc z) :
  Calls Tryz.prog 47 #[.slice A n c,.func (.func 48) #[] #[]] w fun e w'=>e=.returned (.bool (anyP (fun k=>!fitsB (pn k)) n))∧w=w':=by
 have HI:=zh (qindex_ok A n c PA pn pc z hn w hr)
 obtain⟨x,hx⟩:∃x,x=firstP (fun k=>!fitsB (pn k)) 0 n:=⟨_,rfl⟩
 have hA:anyP (fun k=>!fitsB (pn k)) n=decide (0≤x):=by unfold anyP;rw[hx]
 rw[hA]
 rw[←hx]at HI
 clear hx hA hr
 go_enter Tryz.func47,Tryz.ntmps47
 go_wp2_with (go_at_call 60;refine(HI.out).mono ?_;rintro e w2 ⟨rfl,rfl⟩)
 go_ret
 exact⟨rfl,rfl⟩
def pendOk (N:Int) (ct:Nat→Int) (pn:Nat→Nat) (k:Nat):Prop:=fitsB (pn k)=true∧ct k < N∧(0 < k→ct (k-1) < ct k)
structure FOk (ac:Bool) (nx:Int) (us:Bool) (m:Nat) (ct:Nat→Int) (pn:Nat→Nat) (mq:Nat) (qn:Nat→Nat):Prop where
 used:us=true→nx=0
 acked:0 < m→ac=true
 elem:∀k,k < m→pendOk (nextOf nx us) ct pn k
 window:0 < m→nextOf nx us-ct 0≤2048
 queue:∀k,k < mq→fitsB (qn k)=true
set_option maxRecDepth 100000 in
set_option maxHeartbeats 6400000 in
theorem tsvalid_ok (cf:Cfg) (A A2:Option Addr) (m c1 mq c2:Nat) (nx:Int) (us:Bool) (ct:Nat→Int) (PA:Nat→Option Addr) (pn pc:Nat→Nat) (z:Nat→Nat→Int) (QA:Nat→Option Addr) (qn qc:Nat→Nat) (y:Nat→Nat→Int) (w:World) (hnx:0≤nx∧nx < 4294967296) (hm:m≤maxLen) (hmq:mq≤maxLen)
  (h:Cnts w A m ct PA pn pc z) (hq:BRows w A2 mq QA qn qc y) (r:Bool) (hr:r=true↔FOk cf.ac nx us m ct pn mq qn) :
  Calls Tryz.prog 19 #[.agg cf.arr,.agg #[.int .u32 nx,.bool us,.slice A m c1,.slice A2 mq c2]] w fun e w'=>e=.returned (.bool r)∧Below w.heap.size w w':=by
 unfold maxLen at hm
 have HC:=zh h
 have HQ:=zh (fun(W:World) (hb:Below w.heap.size w W)=>qcontains_ok A2 mq c2 QA qn qc y hmq W (hq.below hb))
 have HNX:=zh (fun(W:World)=>tnext_ok nx us (.slice A m c1) (.slice A2 mq c2) W hnx)
 have HNo:=zh (fun(hn:¬FOk cf.ac nx us m ct pn mq qn)=>(show Ending.returned (.bool false)=Ending.returned (.bool r)from ret_bool (by
  rcases Bool.eq_false_or_eq_true r with h | h
  ·exact absurd (hr.1 h) hn
  ·exact h.symm)))
 have HYes:=zh (fun(hn:FOk cf.ac nx us m ct pn mq qn)=>(show Ending.returned (.bool true)=Ending.returned (.bool r)from ret_bool (hr.2 hn).symm))
 have h36:cf.arr[36]? = some (.bool cf.ac):=cf.arr_at (by decide)
 obtain⟨Z,hZ⟩:∃Z,Z=cf.arr:=⟨_,rfl⟩
 obtain⟨ac,hac⟩:∃ac,ac=cf.ac:=⟨_,rfl⟩
 obtain⟨N,hN⟩:∃N,N=nextOf nx us:=⟨_,rfl⟩
 have N0:0≤N∧N≤4294967296:=by rw[hN];unfold nextOf;split<;>omega
 rw[←hZ,←hac]at h36
 rw[←hac]at HNo HYes
 rw[←hZ]
 rw[←hN]at HNX
 have HN:=zh hN
 have hnx0:=hnx.1
 clear h hq hr hZ hac hN hmq hnx
 go_enter Tryz.func19,Tryz.ntmps19
 go_upto_region 1 with (fail)
 refine wp_let (fun W=>Blk W w.heap.size 25 Z∧Blk W (w.heap.size+1) 30 #[.int .u32 nx,.bool us,.slice A m c1,.slice A2 mq c2]∧Below w.heap.size w W) ⟨(Blk.new _ _ _).alloc _,blk_atZ _ _ _ _ (by simp),((Below.refl _ w).alloc (Nat.le_refl _) _).alloc (by simp) _⟩ ?_
 rintro W1 ⟨b1,b2,b3⟩
 obtain⟨zb,hzb⟩:∃zb,zb=w.heap.size:=⟨_,rfl⟩
 rw[←hzb]at b1 b2 ⊢
 have HZB:=zh hzb
 have x36:=(b1.cell 36).trans h36
 have f0:=b2.cell 0
 have f1:=b2.cell 1
 have f2:=b2.cell 2
 have f3:=b2.cell 3
 simp at f0 f1 f2 f3
 have B1:=zh b1
 have B2:=zh b2
 have B3:=zh (show Below w.heap.size w W1 from by exact b3)
 clear b1 b2 b3 hzb h36
 by_cases hun:us=true∧nx ≠ 0
 ·obtain⟨rfl,hn0⟩:=hun
  have d0:(nx != 0)=true:=by simpa using hn0
  have HF:=zh (HNo.out fun h=>hn0 (h.used rfl))
  clear hn0
  go_wp2
  go_ret
  exact⟨HF.out,B3.out⟩
 by_cases hma:0 < m∧ac=false
 ·obtain⟨hm0,rfl⟩:=hma
  have d1:(0:Int) < (m:Int):=by omega
  have HF:=zh (HNo.out fun h=>(by have:=h.acked hm0;cases this))
  cases us
  ·clear hun
   go_wp2
   go_ret
   exact⟨HF.out,B3.out⟩
  ·obtain rfl:nx=0:=by
    rcases Classical.em (nx=0)with e | e
    ·exact e
    ·exact absurd ⟨rfl,e⟩ hun
   clear hun
   go_wp2
   go_ret
   exact⟨HF.out,B3.out⟩
 have HUN:=zh hun
 have HMA:=zh hma
 clear hun hma
 go_cut [24]from 7 to 24 (fun v24 wx=>v24=.bool false∧wx=W1)
 case first=>
  have hu2:us=false∨(us=true∧nx=0):=by
   cases us
   ·exact .inl rfl
   ·refine .inr ⟨rfl,?_⟩
    rcases Classical.em (nx=0)with e | e
    ·exact e
    ·exact absurd ⟨rfl,e⟩ HUN.out
  have ha2:m=0∨(0 < m∧ac=true):=by
   rcases Nat.eq_zero_or_pos m with e | e
   ·exact .inl e
   ·refine .inr ⟨e,?_⟩
    cases ac
    ·exact absurd ⟨e,rfl⟩ HMA.out
    ·rfl
  rcases hu2 with rfl | ⟨rfl,rfl⟩<;>rcases ha2 with rfl | ⟨hm0,rfl⟩
  ·go_wp2
   go_meet
   exact⟨rfl,rfl⟩
  ·have d1:(0:Int) < (m:Int):=by omega
   go_wp2
   go_meet
   exact⟨rfl,rfl⟩
  ·go_wp2
   go_meet
   exact⟨rfl,rfl⟩
  ·have d1:(0:Int) < (m:Int):=by omega
   go_wp2
   go_meet
   exact⟨rfl,rfl⟩
 case rest=>
  obtain⟨rfl,rfl⟩:=hcut
  have hzl:zb < wc.heap.size:=B1.out.lt
  have hfl:zb+1 < wc.heap.size:=B2.out.lt
  go_wp2
  go_loopw [28] (fun v28 wr=>∃k:Nat,k≤m∧v28=.int .i64 k∧(∀j,j < k→pendOk N ct pn j)∧Below wc.heap.size wc wr) (fun v28 _=>m-(intOf v28).toNat)
  case atStart=>exact⟨0,by omega,rfl,fun j hj=>by omega,Below.refl _ _⟩
  case round=>
   obtain⟨k,hk,rfl,hall,hBr⟩:=hrel
   have HALL:=zh hall
   have BR:=zh hBr
   have y0:wr.cell? ⟨zb+1,0,none⟩=some (.int .u32 nx):=(hBr.cell (p:=⟨zb+1,0,none⟩) hfl).trans f0
   have y1:wr.cell? ⟨zb+1,1,none⟩=some (.bool us):=(hBr.cell (p:=⟨zb+1,1,none⟩) hfl).trans f1
   have y2:wr.cell? ⟨zb+1,2,none⟩=some (.slice A m c1):=(hBr.cell (p:=⟨zb+1,2,none⟩) hfl).trans f2
   have y3:wr.cell? ⟨zb+1,3,none⟩=some (.slice A2 mq c2):=(hBr.cell (p:=⟨zb+1,3,none⟩) hfl).trans f3
   have hzr:zb+1 < wr.heap.size:=by have:=hBr.size;omega
   have hwz:w.heap.size≤wc.heap.size:=B3.out.size
   have HCr:=zh (HC.out.below (below_step B3.out hBr))
   clear hall hBr
   by_cases hlt:k < m
   ·obtain⟨lb,lo,rfl,hlb,hlc⟩:=HCr.out.at_ (by omega)
    obtain⟨c0,c1⟩:=hlc k hlt
    have HPREV:=zh (fun(h0:0 < k)=>(hlc (k-1) (by omega)).1)
    obtain⟨r0,r1⟩:=HC.out.rng k hlt
    have HEK:=zh (show pendOk N ct pn k↔fitsB (pn k)=true∧ct k < N∧(0 < k→ct (k-1) < ct k)from Iff.rfl)
    obtain⟨x,hx⟩:∃x,x=ct k:=⟨_,rfl⟩
    obtain⟨fb,hfb⟩:∃fb,fb=fitsB (pn k):=⟨_,rfl⟩
    rw[←hx]at r0 r1 c0 HEK
    rw[←hfb]at HEK
    have HFB:=zh hfb
    have tw:IntKind.u64.wrap x=x:=by simp[IntKind.wrap_u64];omega
    have k0:(0:Int)≤(k:Int):=by omega
    have k1:(k:Int) < (m:Int):=by omega
    clear hx hlc hfb
    go_upto_region 6 with (fail)
    refine wp_let (fun W=>Blk W wr.heap.size 52 #[.int .u32 x,.slice (PA k) (pn k) (pc k)]∧Below wr.heap.size wr W) ⟨Blk.new _ _ _,(Below.refl _ wr).alloc (Nat.le_refl _) _⟩ ?_
    rintro W6 ⟨b6,b7⟩
    obtain⟨xb,hxb⟩:∃xb,xb=wr.heap.size:=⟨_,rfl⟩
    rw[←hxb]at b6 ⊢
    have BW:=zh (below_step (BR.out.mono (Nat.le_refl _)) b7)
    have cell:=fun(b o:Nat) (v:Value) (hb:b < wr.heap.size) (hv:wr.cell? ⟨b,o,none⟩=some v)=>(fun(e:ExtT W6)=>e.cell ((b7.cell (p:=⟨b,o,none⟩) hb).trans hv) (Nat.lt_of_lt_of_le hb b7.size))
    have u0:=cell _ _ _ hzr y0
    have u1:=cell _ _ _ hzr y1
    have u2:=cell _ _ _ hzr y2
    have u3:=cell _ _ _ hzr y3
    have hxl:=b6.lt
    have u4:∀e:ExtT W6,e.v.cell? ⟨xb,0,none⟩=some (.int .u32 x):=fun e=>e.cell (b6.cell 0) hxl
    have u5:∀e:ExtT W6,e.v.cell? ⟨xb,1,none⟩=some (.slice (PA k) (pn k) (pc k)):=fun e=>e.cell (b6.cell 1) hxl
    have HCELL:=zh cell
    clear cell b6 b7 hxb c0 c1 y0 y1 y2 y3
    rcases Bool.eq_false_or_eq_true fb with hfb | hfb
    rotate_left
    ·subst hfb
     have HF:=zh (HNo.out fun h=>(by have:=(HEK.out.1 (by have:=h.elem k hlt;rwa [←HN.out]at this)).1;cases this))
     have FB:=HFB.out.symm
     refine wp_region_extT (by kernel_rfl) (by kernel_rfl) ?_
     repeat (go_big_quiet_step (first
      | (go_at_call 46;exact Calls.ext_ofT ((fits_ok _ _ _ _).mono fun e w' h=>⟨h.1,by rw[←h.2];exact Below.refl _ _⟩))
      | (go_at_call 20;exact Calls.ext_ofT (HNX.out _))))
     refine wpQuiet_nil ?_
     rintro _ ⟨ex,rfl⟩
     go_wp2
     go_ret
     exact⟨HF.out,B3.out.trans ((BW.out.trans (ex.h.mono BW.out.size)).mono hwz)⟩
    subst hfb
    have FB:=HFB.out.symm
    by_cases hlN:N≤x
    ·have HF:=zh (HNo.out fun h=>(by have:=(HEK.out.1 (by have:=h.elem k hlt;rwa [←HN.out]at this)).2.1;omega))
     have dl:decide (N≤x)=true:=by simpa using hlN
     refine wp_region_extT (by kernel_rfl) (by kernel_rfl) ?_
     repeat (go_big_quiet_step (first
      | (go_at_call 46;exact Calls.ext_ofT ((fits_ok _ _ _ _).mono fun e w' h=>⟨h.1,by rw[←h.2];exact Below.refl _ _⟩))
      | (go_at_call 20;exact Calls.ext_ofT (HNX.out _))))
     refine wpQuiet_nil ?_
     rintro _ ⟨ex,rfl⟩
     go_wp2
     go_ret
     exact⟨HF.out,B3.out.trans ((BW.out.trans (ex.h.mono BW.out.size)).mono hwz)⟩
    have dl:decide (N≤x)=false:=by simpa using hlN
    by_cases hk0:k=0
    ·have HOKK:=zh (HEK.out.2 ⟨rfl,by omega,fun h=>absurd h (by omega)⟩)
     have HAL2:=zh (show ∀j,j < k+1→pendOk N ct pn j from fun j hj=>by
      by_cases e:j=k
      ·subst e;exact HOKK.out
      ·exact HALL.out j (by omega))
     have dkb:decide (0 < k)=false:=by simpa using hk0
     clear hk0
     refine wp_region_extT (by kernel_rfl) (by kernel_rfl) ?_
     repeat (go_big_quiet_step (first
      | (go_at_call 46;exact Calls.ext_ofT ((fits_ok _ _ _ _).mono fun e w' h=>⟨h.1,by rw[←h.2];exact Below.refl _ _⟩))
      | (go_at_call 20;exact Calls.ext_ofT (HNX.out _))))
     refine wpQuiet_nil ?_
     rintro _ ⟨ex,rfl⟩
     have BE:=zh (BW.out.trans (ex.h.mono BW.out.size))
     go_wp2
     go_roundw
     case rel=>first | exact⟨k+1,by omega,by go_num,HAL2.out,BE.out⟩ | ((repeat apply Exists.intro);exact⟨⟨k+1,by omega,by go_num,HAL2.out,BE.out⟩,rfl⟩)
     case measure=>simp[intOf];omega
    have dkb:decide (0 < k)=true:=by simp;omega
    have wk:IntKind.i64.wrap ((k:Int)-1)=((k-1:Nat):Int):=by rw[IntWalk.i64_in _ (by omega)];omega
    have kk0:(0:Int)≤((k-1:Nat):Int):=by omega
    have kk1:((k-1:Nat):Int) < (m:Int):=by omega
    have u6:=HCELL.out _ _ _ hlb (HPREV.out (by omega))
    obtain⟨q,hq⟩:∃q,q=k-1:=⟨_,rfl⟩
    rw[←hq]at wk kk0 kk1 u6 HEK
    obtain⟨xp,hxp⟩:∃xp,xp=ct q:=⟨_,rfl⟩
    rw[←hxp]at u6 HEK
    clear hq hxp
    by_cases hle:x≤xp
    ·have HF:=zh (HNo.out fun h=>(by have:=(HEK.out.1 (by have:=h.elem k hlt;rwa [←HN.out]at this)).2.2 (by omega);omega))
     have dp:decide (x≤xp)=true:=by simpa using hle
     refine wp_region_extT (by kernel_rfl) (by kernel_rfl) ?_
     repeat (go_big_quiet_step (first
      | (go_at_call 46;exact Calls.ext_ofT ((fits_ok _ _ _ _).mono fun e w' h=>⟨h.1,by rw[←h.2];exact Below.refl _ _⟩))
      | (go_at_call 20;exact Calls.ext_ofT (HNX.out _))))
     refine wpQuiet_nil ?_
     rintro _ ⟨ex,rfl⟩
     go_wp2
     go_ret
     exact⟨HF.out,B3.out.trans ((BW.out.trans (ex.h.mono BW.out.size)).mono hwz)⟩
    have dp:decide (x≤xp)=false:=by simpa using hle
    have HOKK:=zh (HEK.out.2 ⟨rfl,by omega,fun _=>by omega⟩)
    refine wp_region_extT (by kernel_rfl) (by kernel_rfl) ?_
    repeat (go_big_quiet_step (first
     | (go_at_call 46;exact Calls.ext_ofT ((fits_ok _ _ _ _).mono fun e w' h=>⟨h.1,by rw[←h.2];exact Below.refl _ _⟩))
     | (go_at_call 20;exact Calls.ext_ofT (HNX.out _))))
    refine wpQuiet_nil ?_
    rintro _ ⟨ex,rfl⟩
    have BE:=zh (BW.out.trans (ex.h.mono BW.out.size))
    have HAL2:=zh (show ∀j,j < k+1→pendOk N ct pn j from fun j hj=>by
     by_cases e:j=k
     ·subst e;exact HOKK.out
     ·exact HALL.out j (by omega))
    go_wp2
    go_roundw
    case rel=>first | exact⟨k+1,by omega,by go_num,HAL2.out,BE.out⟩ | ((repeat apply Exists.intro);exact⟨⟨k+1,by omega,by go_num,HAL2.out,BE.out⟩,rfl⟩)
    case measure=>simp[intOf];omega
   ·obtain rfl:k=m:=by omega
    have HALL2:=zh HALL.out
    by_cases hk0:k=0
    ·have dkb:decide (0 < k)=false:=by simpa using hk0
     have HK0:=zh hk0
     clear hk0
     have u2:∀e:ExtT wr,e.v.cell? ⟨zb+1,2,none⟩=some (.slice A k c1):=fun e=>e.cell y2 hzr
     have HQ3:=zh y3
     clear y0 y1 y2 y3
     go_upto_region 9 with (fail)
     refine wp_region_extT (by kernel_rfl) (by kernel_rfl) ?_
     repeat (go_big_quiet_step (first
      | (go_at_call 20;exact Calls.ext_ofT (HNX.out _))))
     refine wpQuiet_nil ?_
     rintro _ ⟨ex,rfl⟩
     have y3:=ex.cell HQ3.out hzr
     have BE:=zh (BR.out.trans (ex.h.mono BR.out.size))
     have HQC:=zh (HQ.out _ (B3.out.trans (BE.out.mono hwz)))
     obtain⟨bq,hbq⟩:∃b,b=anyP (fun k=>!fitsB (qn k)) mq:=⟨_,rfl⟩
     rw[←hbq]at HQC
     have HRES:=zh (show Ending.returned (.bool (!bq))=Ending.returned (.bool r)from by
      have hiff:=anyP_iff (fun k=>!fitsB (qn k)) mq
      rw[←hbq]at hiff
      cases bq
      ·exact HYes.out ⟨fun h=>(by
        rcases Classical.em (nx=0)with e | e
        ·exact e
        ·exact absurd ⟨h,e⟩ HUN.out),fun h=>(by
        cases ac
        ·exact absurd ⟨h,rfl⟩ HMA.out
        ·rfl),fun j hj=>(by rw[←HN.out];exact HALL.out j hj),fun h=>absurd h (by have:=HK0.out;omega),fun j hj=>(by
        rcases Bool.eq_false_or_eq_true (fitsB (qn j))with e | e
        ·exact e
        ·exact absurd (hiff.2 ⟨j,hj,by rw[e];rfl⟩) (by decide))⟩
      ·refine HNo.out fun h=>?_
       obtain⟨j,hj,e⟩:=hiff.1 rfl
       have:=h.queue j hj
       rw[this]at e
       cases e)
     clear hbq
     go_wp2_with (go_at_call 47;refine HQC.out.mono ?_;rintro e w9 ⟨rfl,rfl⟩)
     go_ret
     exact⟨HRES.out,B3.out.trans (BE.out.mono hwz)⟩
    obtain⟨lb,lo,rfl,hlb,hlc⟩:=HCr.out.at_ hk0
    obtain⟨c0,_⟩:=hlc 0 (by omega)
    obtain⟨r0,r1⟩:=HC.out.rng 0 (by omega)
    have dkb:decide (0 < k)=true:=by simp;omega
    have cell:=fun(b o:Nat) (v:Value) (hb:b < wr.heap.size) (hv:wr.cell? ⟨b,o,none⟩=some v)=>(fun(e:ExtT wr)=>e.cell hv hb)
    have u0:=cell _ _ _ hzr y0
    have u1:=cell _ _ _ hzr y1
    have u2:=cell _ _ _ hzr y2
    have u3:=cell _ _ _ hzr y3
    have u4:=cell _ _ _ hlb c0
    simp only[Nat.zero_mul,Nat.add_zero]at u4
    have hx1:=(HALL.out 0 (by omega)).2.1
    have HX0:=zh (show ∀x,x=ct 0→nextOf nx us-ct 0=N-x from fun x hx=>by rw[hx,HN.out])
    obtain⟨x,hx⟩:∃x,x=ct 0:=⟨_,rfl⟩
    rw[←hx]at r0 r1 u4 hx1
    have HXX:=zh (HX0.out x hx)
    have tw:IntKind.u64.wrap x=x:=by simp[IntKind.wrap_u64];omega
    have ts:IntKind.u64.wrap (N-x)=N-x:=by simp[IntKind.wrap_u64];omega
    have hk0':0 < k:=by omega
    have HQ3:=zh y3
    clear hlc c0 cell hx hk0 y0 y1 y2 y3
    go_upto_region 9 with (fail)
    by_cases hw:(2048:Int) < N-x
    ·have HF:=zh (HNo.out fun h=>(by have:=h.window hk0';have e:=HXX.out;omega))
     refine wp_region_extT (by kernel_rfl) (by kernel_rfl) ?_
     repeat (go_big_quiet_step (first
      | (go_at_call 20;exact Calls.ext_ofT (HNX.out _))))
     refine wpQuiet_nil ?_
     rintro _ ⟨ex,rfl⟩
     go_wp2
     go_ret
     exact⟨HF.out,B3.out.trans ((BR.out.trans (ex.h.mono BR.out.size)).mono hwz)⟩
    refine wp_region_extT (by kernel_rfl) (by kernel_rfl) ?_
    repeat (go_big_quiet_step (first
     | (go_at_call 20;exact Calls.ext_ofT (HNX.out _))))
    refine wpQuiet_nil ?_
    rintro _ ⟨ex,rfl⟩
    have hwin:nextOf nx us-ct 0≤2048:=by have e:=HXX.out;omega
    have HWIN:=zh hwin
    have y3:=ex.cell (HQ3.out) hzr
    have BE:=zh (BR.out.trans (ex.h.mono BR.out.size))
    have HQC:=zh (HQ.out _ (B3.out.trans (BE.out.mono hwz)))
    obtain⟨bq,hbq⟩:∃b,b=anyP (fun k=>!fitsB (qn k)) mq:=⟨_,rfl⟩
    rw[←hbq]at HQC
    have HRES:=zh (show Ending.returned (.bool (!bq))=Ending.returned (.bool r)from by
     have hiff:=anyP_iff (fun k=>!fitsB (qn k)) mq
     rw[←hbq]at hiff
     cases bq
     ·exact HYes.out ⟨fun h=>(by
       rcases Classical.em (nx=0)with e | e
       ·exact e
       ·exact absurd ⟨h,e⟩ HUN.out),fun h=>(by
       cases ac
       ·exact absurd ⟨h,rfl⟩ HMA.out
       ·rfl),fun j hj=>(by rw[←HN.out];exact HALL.out j hj),fun h=>HWIN.out,fun j hj=>(by
       rcases Bool.eq_false_or_eq_true (fitsB (qn j))with e | e
       ·exact e
       ·exact absurd (hiff.2 ⟨j,hj,by rw[e];rfl⟩) (by decide))⟩
     ·refine HNo.out fun h=>?_
      obtain⟨j,hj,e⟩:=hiff.1 rfl
      have:=h.queue j hj
      rw[this]at e
      cases e)
    clear hbq
    go_wp2_with (go_at_call 47;refine HQC.out.mono ?_;rintro e w9 ⟨rfl,rfl⟩)
    go_ret
    exact⟨HRES.out,B3.out.trans (BE.out.mono hwz)⟩
end Go.Proofs.YtjanmleoomoedaaGreat
namespace Go.Proofs.YtjanmleoomoedaaGreat
open Go.RowKit
set_option linter.unusedVariables false
theorem cells_ne {w:World} {a b:Nat} {x y:Array Value} {t u:TypeId} {f g:Nat×Nat} (ha:w.heap[a]? = some (.cells x t f)) (hb:w.heap[b]? = some (.cells y u g)) (h:t ≠ u):a ≠ b:=by
 rintro rfl
 rw[ha]at hb
 injection hb with hb
 injection hb with _ h2
 exact h h2
theorem map_ne {w:World} {a b:Nat} {x:Array Value} {t:TypeId} {f:Nat×Nat} {es:Array MapEntry} {c:Nat} (ha:w.heap[a]? = some (.cells x t f)) (hb:w.heap[b]? = some (.map es c)):a ≠ b:=by
 rintro rfl
 rw[ha]at hb
 cases hb
theorem SL.obj {w:World} {e:TypeId} {sz:Nat} {A:Option Addr} {n c:Nat} {xs:List Value} (h:SL w e sz A n c xs) {a:Addr} (ha:A=some a):∃cur,w.heap[a.block]? = some (.cells cur e (0,0)):=by
 rcases h.at_ with ⟨h1,_⟩ | ⟨b,o,cur,h1,h2,_⟩
 ·rw[h1]at ha;cases ha
 ·rw[h1]at ha;cases ha
  exact⟨cur,h2⟩
section
variable {w w1 w':World} {g:Nat} {s:TS} {W R R' F:Nat→Prop} {qA qA':Option Addr} {qc qc':Nat} {lq lq':List WE} {pA pA':Option Addr} {pc pc':Nat} {lp lp':List PE} {ub cb:Nat}
theorem TxM.gq (h:TxM w g s W R qA qc lq pA pc lp ub cb) (a:Addr) (ha:qA=some a):g ≠ a.block:=by
 obtain⟨cur,hc⟩:=h.q.obj ha
 exact cells_ne h.blk hc (by decide)
theorem TxM.gp (h:TxM w g s W R qA qc lq pA pc lp ub cb) (a:Addr) (ha:pA=some a):g ≠ a.block:=by
 obtain⟨cur,hc⟩:=h.p.obj ha
 exact cells_ne h.blk hc (by decide)
theorem TxM.qp (h:TxM w g s W R qA qc lq pA pc lp ub cb) (a b:Addr) (ha:qA=some a) (hb:pA=some b):a.block ≠ b.block:=by
 obtain⟨cur,hc⟩:=h.q.obj ha
 obtain⟨cur',hc'⟩:=h.p.obj hb
 exact cells_ne hc hc' (by decide)
theorem TxM.gu (h:TxM w g s W R qA qc lq pA pc lp ub cb):g ≠ ub:=by
 obtain⟨es,c,h1,_⟩:=h.u
 exact map_ne h.blk h1
theorem TxM.qu (h:TxM w g s W R qA qc lq pA pc lp ub cb) (a:Addr) (ha:qA=some a):a.block ≠ ub:=by
 obtain⟨es,c,h1,_⟩:=h.u
 obtain⟨cur,hc⟩:=h.q.obj ha
 exact map_ne hc h1
theorem TxM.pu (h:TxM w g s W R qA qc lq pA pc lp ub cb) (a:Addr) (ha:pA=some a):a.block ≠ ub:=by
 obtain⟨es,c,h1,_⟩:=h.u
 obtain⟨cur,hc⟩:=h.p.obj ha
 exact map_ne hc h1
theorem TxM.moreR (h:TxM w g s W R qA qc lq pA pc lp ub cb) (hR:∀k,R k→R' k) (hd:∀k,W k→R' k→False) (hr:∀k,R' k→k < w.heap.size):TxM w g s W R' qA qc lq pA pc lp ub cb:=
 ⟨h.blk,h.qv,h.pv,h.q,h.p,h.u,h.k,fun e he=>(h.qe e he).mono hR,fun e he=>(h.pe e he).mono hR,h.pr,h.wg,h.wu,h.wc,h.wq,h.wp,h.kg,h.ku,h.kq,h.kp,hd,h.win,hr,h.now0,h.next0⟩
theorem TxM.setNow (h:TxM w g s W R qA qc lq pA pc lp ub cb) (x:Int) (hx:0≤x∧x < 1073741824):TxM (w.setCell ⟨g,40,none⟩ (.int .i64 x)) g { s with now:=x } W R qA qc lq pA pc lp ub cb:=by
 have hk:KeepF (fun k=>k=g) w (w.setCell ⟨g,40,none⟩ (.int .i64 x)):=(KeepF.refl (F:=fun k=>k=g)).setCell (p:=⟨g,40,none⟩) rfl _
 refine⟨?_,h.qv,h.pv,h.q.keepF hk (fun a e h2=>h.gq a e h2.symm),h.p.keepF hk (fun a e h2=>h.gp a e h2.symm),h.u.keep (hk.block _ h.u.lt (fun e=>h.gu e.symm)),(hk.block _ (h.win _ h.wc) h.kg).trans h.k,
  fun e he=>(h.qe e he).keep hk (fun k e2 hr=>h.dis k (e2 ▸ h.wg) hr),fun e he=>(h.pe e he).keep hk (fun k e2 hr=>h.dis k (e2 ▸ h.wg) hr),h.pr,h.wg,h.wu,h.wc,h.wq,h.wp,h.kg,h.ku,h.kq,h.kp,h.dis,fun k hw=>Nat.lt_of_lt_of_le (h.win k hw) hk.size,fun k hw=>Nat.lt_of_lt_of_le (h.rin k hw) hk.size,hx,h.next0⟩
 have:=h.blk.set_ 40 (.int .i64 x)
 rwa [tArr_now s.C.arr_size]at this
theorem TxM.setNext (h:TxM w g s W R qA qc lq pA pc lp ub cb) (x:Int) (hx:0≤x∧x≤4294967296):TxM (w.setCell ⟨g,41,none⟩ (.int .u64 x)) g { s with next:=x } W R qA qc lq pA pc lp ub cb:=by
 have hk:KeepF (fun k=>k=g) w (w.setCell ⟨g,41,none⟩ (.int .u64 x)):=(KeepF.refl (F:=fun k=>k=g)).setCell (p:=⟨g,41,none⟩) rfl _
 refine⟨?_,h.qv,h.pv,h.q.keepF hk (fun a e h2=>h.gq a e h2.symm),h.p.keepF hk (fun a e h2=>h.gp a e h2.symm),h.u.keep (hk.block _ h.u.lt (fun e=>h.gu e.symm)),(hk.block _ (h.win _ h.wc) h.kg).trans h.k,
  fun e he=>(h.qe e he).keep hk (fun k e2 hr=>h.dis k (e2 ▸ h.wg) hr),fun e he=>(h.pe e he).keep hk (fun k e2 hr=>h.dis k (e2 ▸ h.wg) hr),h.pr,h.wg,h.wu,h.wc,h.wq,h.wp,h.kg,h.ku,h.kq,h.kp,h.dis,fun k hw=>Nat.lt_of_lt_of_le (h.win k hw) hk.size,fun k hw=>Nat.lt_of_lt_of_le (h.rin k hw) hk.size,h.now0,hx⟩
 have:=h.blk.set_ 41 (.int .u64 x)
 rwa [tArr_next s.C.arr_size]at this
theorem TxM.setP (h:TxM w g s W R qA qc lq pA pc lp ub cb) (hk:KeepF (fun k=>∃a,pA=some a∧k=a.block) w w1) (hn:∀a,pA'=some a→(∃a',pA=some a'∧a.block=a'.block)∨w.heap.size≤a.block) (hs:SL w1 69 3 pA' lp'.length pc' (lp'.flatMap PE.cells))
  (he:∀e,e∈lp'→Pkt w1 R e.A e.v.n e.c e.v.z) (pr:∀e,e∈lp'→0≤e.v.ct∧e.v.ct < 4294967296) :
  TxM (w1.setCell ⟨g,43,none⟩ (.slice pA' lp'.length pc')) g { s with P:=lp'.map (·.v) } (fun k=>W k∨∃a,pA'=some a∧k=a.block) R qA qc lq pA' pc' lp' ub cb:=by
 have hg:KeepF (fun k=>k=g) w1 (w1.setCell ⟨g,43,none⟩ (.slice pA' lp'.length pc')):=(KeepF.refl (F:=fun k=>k=g)).setCell (p:=⟨g,43,none⟩) rfl _
 have hgl:=h.blk.lt
 have hg1:Blk w1 g _ _:=hk.blk h.blk (fun⟨a,ha,e⟩=>h.gp a ha e)
 have hgx:∀a,pA'=some a→¬a.block=g:=fun a ha e=>by
  rcases hn a ha with ⟨a',ha',e'⟩ | hge
  ·exact h.gp a' ha' (by omega)
  ·omega
 have hs1:∀a,qA=some a→¬∃b,pA=some b∧a.block=b.block:=fun a ha ⟨b,hb,e⟩=>h.qp a b ha hb e
 have hcx:∀a,pA'=some a→cb ≠ a.block:=fun a ha e=>by
  rcases hn a ha with ⟨a',ha',e'⟩ | hge
  ·exact h.kp a' ha' (by omega)
  ·have:=h.win _ h.wc;omega
 have hsz:w.heap.size≤w1.heap.size:=hk.size
 have hu1:=hk.block ub h.u.lt (fun⟨a,ha,e⟩=>h.pu a ha e.symm)
 have hc1:=hk.block cb (h.win _ h.wc) (fun⟨a,ha,e⟩=>h.kp a ha e)
 have pk:∀{A:Option Addr} {n c:Nat} {z:Nat→Int},Pkt w R A n c z→Pkt w1 R A n c z:=fun hp=>hp.keep hk (fun k ⟨a,ha,e⟩ hr=>h.dis k (by rw[e];exact h.wp a ha) hr)
 have pg:∀{A:Option Addr} {n c:Nat} {z:Nat→Int},Pkt w1 R A n c z→Pkt (w1.setCell ⟨g,43,none⟩ (.slice pA' lp'.length pc')) R A n c z:=fun hp=>hp.keep hg (fun k e hr=>h.dis k (by rw[e];exact h.wg) hr)
 refine⟨?_,h.qv,rfl,(h.q.keepF hk hs1).keepF hg (fun a e h2=>h.gq a e h2.symm),hs.keepF hg hgx,
  (h.u.keep hu1).keep (hg.block _ (Nat.lt_of_lt_of_le h.u.lt hsz) (fun e=>h.gu e.symm)),(hg.block _ (Nat.lt_of_lt_of_le (h.win _ h.wc) hsz) h.kg).trans (hc1.trans h.k),
  fun e he2=>pg (pk (h.qe e he2)),fun e he2=>pg (he e he2),(fun e he=>(by obtain⟨x,hx,rfl⟩:=List.mem_map.1 he;exact pr x hx)),.inl h.wg,.inl h.wu,.inl h.wc,
  fun a e=>.inl (h.wq a e),fun a e=>.inr ⟨a,e,rfl⟩,h.kg,h.ku,h.kq,hcx,
  fun k hw hr=>?_,fun k hw=>?_,fun k hr=>Nat.lt_of_lt_of_le (Nat.lt_of_lt_of_le (h.rin k hr) hsz) hg.size,h.now0,h.next0⟩
 ·have:=hg1.set_ 43 (.slice pA' lp'.length pc')
  rwa [tArr_p s.C.arr_size]at this
 ·rcases hw with hw | ⟨a,ha,rfl⟩
  ·exact h.dis k hw hr
  ·rcases hn a ha with ⟨a',ha',e'⟩ | hge
   ·exact h.dis _ (by rw[e'];exact h.wp a' ha') hr
   ·have:=h.rin _ hr;omega
 ·rcases hw with hw | ⟨a,ha,rfl⟩
  ·exact Nat.lt_of_lt_of_le (Nat.lt_of_lt_of_le (h.win k hw) hsz) hg.size
  ·exact Nat.lt_of_lt_of_le (hs.lt ha) hg.size
theorem TxM.setQ (h:TxM w g s W R qA qc lq pA pc lp ub cb) (hk:KeepF (fun k=>∃a,qA=some a∧k=a.block) w w1) (hn:∀a,qA'=some a→(∃a',qA=some a'∧a.block=a'.block)∨w.heap.size≤a.block) (hs:SL w1 71 2 qA' lq'.length qc' (lq'.flatMap WE.cells))
  (he:∀e,e∈lq'→Pkt w1 R e.A e.v.n e.c e.v.z)  :
  TxM (w1.setCell ⟨g,42,none⟩ (.slice qA' lq'.length qc')) g { s with Q:=lq'.map (·.v) } (fun k=>W k∨∃a,qA'=some a∧k=a.block) R qA' qc' lq' pA pc lp ub cb:=by
 have hg:KeepF (fun k=>k=g) w1 (w1.setCell ⟨g,42,none⟩ (.slice qA' lq'.length qc')):=(KeepF.refl (F:=fun k=>k=g)).setCell (p:=⟨g,42,none⟩) rfl _
 have hgl:=h.blk.lt
 have hg1:Blk w1 g _ _:=hk.blk h.blk (fun⟨a,ha,e⟩=>h.gq a ha e)
 have hgx:∀a,qA'=some a→¬a.block=g:=fun a ha e=>by
  rcases hn a ha with ⟨a',ha',e'⟩ | hge
  ·exact h.gq a' ha' (by omega)
  ·omega
 have hs1:∀a,pA=some a→¬∃b,qA=some b∧a.block=b.block:=fun a ha ⟨b,hb,e⟩=>h.qp b a hb ha e.symm
 have hcx:∀a,qA'=some a→cb ≠ a.block:=fun a ha e=>by
  rcases hn a ha with ⟨a',ha',e'⟩ | hge
  ·exact h.kq a' ha' (by omega)
  ·have:=h.win _ h.wc;omega
 have hsz:w.heap.size≤w1.heap.size:=hk.size
 have hu1:=hk.block ub h.u.lt (fun⟨a,ha,e⟩=>h.qu a ha e.symm)
 have hc1:=hk.block cb (h.win _ h.wc) (fun⟨a,ha,e⟩=>h.kq a ha e)
 have pk:∀{A:Option Addr} {n c:Nat} {z:Nat→Int},Pkt w R A n c z→Pkt w1 R A n c z:=fun hp=>hp.keep hk (fun k ⟨a,ha,e⟩ hr=>h.dis k (by rw[e];exact h.wq a ha) hr)
 have pg:∀{A:Option Addr} {n c:Nat} {z:Nat→Int},Pkt w1 R A n c z→Pkt (w1.setCell ⟨g,42,none⟩ (.slice qA' lq'.length qc')) R A n c z:=fun hp=>hp.keep hg (fun k e hr=>h.dis k (by rw[e];exact h.wg) hr)
 refine⟨?_,rfl,h.pv,hs.keepF hg hgx,(h.p.keepF hk hs1).keepF hg (fun a e h2=>h.gp a e h2.symm),
  (h.u.keep hu1).keep (hg.block _ (Nat.lt_of_lt_of_le h.u.lt hsz) (fun e=>h.gu e.symm)),(hg.block _ (Nat.lt_of_lt_of_le (h.win _ h.wc) hsz) h.kg).trans (hc1.trans h.k),
  fun e he2=>pg (he e he2),fun e he2=>pg (pk (h.pe e he2)),h.pr,.inl h.wg,.inl h.wu,.inl h.wc,
  fun a e=>.inr ⟨a,e,rfl⟩,fun a e=>.inl (h.wp a e),h.kg,h.ku,hcx,h.kp,
  fun k hw hr=>?_,fun k hw=>?_,fun k hr=>Nat.lt_of_lt_of_le (Nat.lt_of_lt_of_le (h.rin k hr) hsz) hg.size,h.now0,h.next0⟩
 ·have:=hg1.set_ 42 (.slice qA' lq'.length qc')
  rwa [tArr_q s.C.arr_size]at this
 ·rcases hw with hw | ⟨a,ha,rfl⟩
  ·exact h.dis k hw hr
  ·rcases hn a ha with ⟨a',ha',e'⟩ | hge
   ·exact h.dis _ (by rw[e'];exact h.wq a' ha') hr
   ·have:=h.rin _ hr;omega
 ·rcases hw with hw | ⟨a,ha,rfl⟩
  ·exact Nat.lt_of_lt_of_le (Nat.lt_of_lt_of_le (h.win k hw) hsz) hg.size
  ·exact Nat.lt_of_lt_of_le (hs.lt ha) hg.size
end
end Go.Proofs.YtjanmleoomoedaaGreat

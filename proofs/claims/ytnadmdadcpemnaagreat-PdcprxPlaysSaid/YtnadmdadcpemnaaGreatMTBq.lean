import Derived.Test.YtnadmdadcpemnaaGreatTAq
import Derived.Test.YtnadmdadcpemnaaGreatNAq
import Derived.Test.YtnadmdadcpemnaaGreatAppq
import Derived.Test.YtnadmdadcpemnaaGreatStrq
import Derived.Test.YtnadmdadcpemnaaGreatHNq
import Derived.BigGuardPart
import Derived.BigQuiet
import Derived.Deep.DeepFit
import Derived.Deep.OwnRows
import Derived.Deep.QuietTactic
import Derived.Handy
import Derived.KernelRfl
import Derived.ScopeJumps
import Derived.WalkLawsBesides
import Derived.WalkMore
import Derived.WalkSpells
import Derived.RegionTactic
import Derived.ChangeAlike
import Derived.RangeFuncNested
import Derived.RangeFuncBound
import Derived.RangeFuncCalls
import Derived.RangeFuncLeaves
import Derived.Shelf.Abstract
import Derived.Shelf.RegionOpen
import Derived.WalkKit
import Derived.OwnWalkIn
import Derived.TacticsInMore
import Derived.LoopNIn
import Derived.LoopIn
import Derived.RangeFuncBox
import Derived.Deep.RegionHeld3
import Derived.Laws.BitsAllLaws
import Derived.Maps.OwnSet
import Derived.Lib.SliceRun
import Derived.Deep.Upon
namespace Go.Proofs.YtnadmdadcpemnaaGreat
set_option linter.unusedVariables false
set_option linter.unusedSimpArgs false
open Go.RowKit
structure Cfg where
 b:Int
 d:Int
 key:Nat->Int
 code:Nat->Int
 ig:Bool
 cm:Bool
 ac:Bool
 ds:Int
 ro:Int
def Cfg.cell (c:Cfg) (j:Nat):Value:=
 if j=0 then .int .i64 c.b else if j=1 then .int .i64 c.d else if j < 18 then .int .u8 (c.key (j-2)) else if j < 34 then .int .u8 (c.code (j-18)) else if j=34 then .bool c.ig else if j=35 then .bool c.cm else if j=36 then .bool c.ac else if j=37 then .int .i64 c.ds else .int .i64 c.ro
def Cfg.arr (c:Cfg):Array Value:=Array.ofFn (n:=39) fun j=>c.cell j.1
theorem Cfg.arr_size (c:Cfg):c.arr.size=39:=by simp[Cfg.arr]
theorem Cfg.arr_at (c:Cfg) {j:Nat} (hj:j < 39):c.arr[j]? = some (c.cell j):=by unfold Cfg.arr;simp[hj]
theorem Cfg.cell_one (c:Cfg) (j:Nat):(c.cell j).oneCell'=true:=by
 unfold Cfg.cell
 repeat (split<;>try rfl)
theorem Cfg.arr_one (c:Cfg):c.arr.all (·.oneCell')=true:=by
 rw[Array.all_eq_true];intro i hi;simp only[Cfg.arr,Array.getElem_ofFn]
 exact c.cell_one i
structure Cfg.Ok (c:Cfg):Prop where
 key:∀j,j < 16->0<=c.key j/\c.key j < 256
 code:∀j,j < 16->0<=c.code j/\c.code j < 256
def Cfg.Valid (c:Cfg):Prop:=0<=c.b/\c.b<=31/\(c.d=0\/c.d=1)/\0<=c.ds/\c.ds<=1073741824/\0<=c.ro/\c.ro<=1073741824
instance Cfg.decValid (c:Cfg):Decidable c.Valid:=by unfold Cfg.Valid;infer_instance
def Cfg.zero:Cfg:=⟨0,0,fun _=>0,fun _=>0,false,false,false,0,0⟩
structure QV where
 n:Nat
 z:Nat->Int
 at_:Int
structure PV where
 ct:Int
 n:Nat
 z:Nat->Int
 rep:Bool
structure WE where
 v:QV
 A:Option Addr
 c:Nat
structure PE where
 v:PV
 A:Option Addr
 c:Nat
def WE.cells (e:WE):List Value:=[.slice e.A e.v.n e.c,.int .i64 e.v.at_]
def PE.cells (e:PE):List Value:=[.int .u32 e.v.ct,.slice e.A e.v.n e.c,.bool e.v.rep]
structure Pkt (w:World) (R:Nat->Prop) (A:Option Addr) (n c:Nat) (z:Nat->Int):Prop where
 pos:1<=n
 max:n<=9000
 cap:n<=c
 byte:∀j,j < n->0<=z j/\z j < 256
 row:Row w w.heap.size A n (fun j=>.int .u8 (z j))
 ro:∀a,A=some a->R a.block
theorem Pkt.keep {F R:Nat->Prop} {w w':World} {A:Option Addr} {n c:Nat} {z:Nat->Int} (h:Pkt w R A n c z) (hk:KeepF F w w') (hF:∀k,F k->¬R k):Pkt w' R A n c z:=
 ⟨h.pos,h.max,h.cap,h.byte,(hk.row h.row (Nat.le_refl _) (fun a e _ hf=>hF _ hf (h.ro a e))).more hk.size,h.ro⟩
theorem Pkt.mono {R R':Nat->Prop} {w:World} {A:Option Addr} {n c:Nat} {z:Nat->Int} (h:Pkt w R A n c z) (hR:∀k,R k->R' k):Pkt w R' A n c z:=
 ⟨h.pos,h.max,h.cap,h.byte,h.row,fun a e=>hR _ (h.ro a e)⟩
def tArr (C:Array Value) (made:Bool) (now next:Int) (q p:Value) (ub cb:Nat):Array Value:=C++#[.bool made,.int .i64 now,.int .u64 next,q,p,.map (some ub),.pointer (some ⟨cb,0,none⟩)]
section
variable {C:Array Value} {made:Bool} {now next:Int} {q p:Value} {ub cb:Nat}
end
def UK (w:World) (ub:Nat) (L:List (Array Value)):Prop:=∃es c,w.heap[ub]? = some (.map es c)/\es.toList.map (·.key)=L.map Value.agg/\∀e,e∈es.toList->e.val=.bool true
theorem UK.lt {w:World} {ub:Nat} {L:List (Array Value)} (h:UK w ub L):ub < w.heap.size:=by
 obtain⟨es,c,h1,_⟩:=h
 exact(Array.getElem?_eq_some_iff.1 h1).1
theorem UK.keep {w w':World} {ub:Nat} {L:List (Array Value)} (h:UK w ub L) (hk:w'.heap[ub]? = w.heap[ub]?):UK w' ub L:=by
 obtain⟨es,c,h1,h2⟩:=h
 exact⟨es,c,hk.trans h1,h2⟩
structure TS where
 C:Cfg
 now:Int
 next:Int
 Q:List QV
 P:List PV
 used:List (Array Value)
 comp:Obj
section
variable {w w':World} {g:Nat} {s:TS} {W R F:Nat->Prop} {qA:Option Addr} {qc:Nat} {lq:List WE} {pA:Option Addr} {pc:Nat} {lp:List PE} {ub cb:Nat}
end
end Go.Proofs.YtnadmdadcpemnaaGreat
namespace Go.Proofs.YtnadmdadcpemnaaGreat
set_option linter.unusedVariables false
set_option linter.unusedSimpArgs false
open Go.RowKit
attribute [local go_sem ↓] Go.wp_at_zero Go.wp_at_succ
theorem infoPd:(Tryz.prog.info? 25).map (·.size)=some 39:=by kernel_rfl
end Go.Proofs.YtnadmdadcpemnaaGreat
namespace Go.Proofs.YtnadmdadcpemnaaGreat
set_option linter.unusedVariables false
set_option linter.unusedSimpArgs false
open Go.RowKit
structure Cnts (w:World) (A:Option Addr) (m:Nat) (ct:Nat->Int) (PA:Nat->Option Addr) (pn pc:Nat->Nat) (z:Nat->Nat->Int):Prop where
 at_:m ≠ 0->∃lb lo,A=some ⟨lb,lo,none⟩/\lb < w.heap.size/\∀k,k < m->w.cell? ⟨lb,lo+k*2,none⟩=some (.int .u32 (ct k))/\w.cell? ⟨lb,lo+k*2+1,none⟩=some (.slice (PA k) (pn k) (pc k))
 rng:∀k,k < m->0<=ct k/\ct k < 4294967296
 len:∀k,k < m->pn k<=9223372036854775807
 cap:∀k,k < m->pn k<=pc k
 byte:∀k,k < m->∀j,j < pn k->0<=z k j/\z k j < 256
 row:∀k,k < m->Row w w.heap.size (PA k) (pn k) (fun j=>.int .u8 (z k j))
theorem Cnts.below {w w':World} {A:Option Addr} {m:Nat} {ct:Nat->Int} {PA:Nat->Option Addr} {pn pc:Nat->Nat} {z:Nat->Nat->Int} (h:Cnts w A m ct PA pn pc z) (hb:Below w.heap.size w w'):Cnts w' A m ct PA pn pc z:=
 ⟨fun hm=>by
  obtain⟨lb,lo,e,hlt,hc⟩:=h.at_ hm
  exact⟨lb,lo,e,Nat.lt_of_lt_of_le hlt hb.size,fun k hk=>⟨(hb.cell (p:=⟨lb,lo+k*2,none⟩) hlt).trans (hc k hk).1,(hb.cell (p:=⟨lb,lo+k*2+1,none⟩) hlt).trans (hc k hk).2⟩⟩,h.rng,h.len,h.cap,h.byte,fun k hk=>(h.row k hk).next hb⟩
theorem blk_atZ (W:World) (t:TypeId) (cs:Array Value) (N:Nat) (hN:W.heap.size=N):Blk (W.alloc (.cells cs t)) N t cs:=by
 subst hN;exact Blk.new W t cs
theorem cells_ne {w:World} {a b:Nat} {x y:Array Value} {t u:TypeId} {f g:Nat×Nat} (ha:w.heap[a]? = some (.cells x t f)) (hb:w.heap[b]? = some (.cells y u g)) (h:t ≠ u):a ≠ b:=by
 rintro rfl;rw[ha]at hb;injection hb with hb
 injection hb with _ h2
 exact h h2
theorem map_ne {w:World} {a b:Nat} {x:Array Value} {t:TypeId} {f:Nat×Nat} {es:Array MapEntry} {c:Nat} (ha:w.heap[a]? = some (.cells x t f)) (hb:w.heap[b]? = some (.map es c)):a ≠ b:=by
 rintro rfl;rw[ha]at hb
 cases hb
theorem SL.obj {w:World} {e:TypeId} {sz:Nat} {A:Option Addr} {n c:Nat} {xs:List Value} (h:SL w e sz A n c xs) {a:Addr} (ha:A=some a):∃cur,w.heap[a.block]? = some (.cells cur e (0,0)):=by
 rcases h.at_ with ⟨h1,_⟩ | ⟨b,o,cur,h1,h2,_⟩
 ·rw[h1]at ha;cases ha
 ·rw[h1]at ha;cases ha
  exact⟨cur,h2⟩
section
variable {w w1 w':World} {g:Nat} {s:TS} {W R R' F:Nat->Prop} {qA qA':Option Addr} {qc qc':Nat} {lq lq':List WE} {pA pA':Option Addr} {pc pc':Nat} {lp lp':List PE} {ub cb:Nat}
end
end Go.Proofs.YtnadmdadcpemnaaGreat
namespace Go.Proofs.YtnadmdadcpemnaaGreat
set_option linter.unusedVariables false
set_option linter.unusedSimpArgs false
open Go.RowKit
attribute [local go_sem ↓] Go.wp_at_zero Go.wp_at_succ
def kArr (f:Nat->Int):Array Value:=#[.int .u8 (f 0),.int .u8 (f 1),.int .u8 (f 2),.int .u8 (f 3),.int .u8 (f 4),.int .u8 (f 5),.int .u8 (f 6),.int .u8 (f 7),.int .u8 (f 8),.int .u8 (f 9),.int .u8 (f 10),.int .u8 (f 11),.int .u8 (f 12),.int .u8 (f 13),.int .u8 (f 14),.int .u8 (f 15)]
theorem kArr_at (f:Nat->Int):∀j,j < 16->(kArr f)[j]? = some (.int .u8 (f j)):=fun j hj=>by
 rcases (by omega:j=0\/j=1\/j=2\/j=3\/j=4\/j=5\/j=6\/j=7\/j=8\/j=9\/j=10\/j=11\/j=12\/j=13\/j=14\/j=15)with rfl | rfl | rfl | rfl | rfl | rfl | rfl | rfl | rfl | rfl | rfl | rfl | rfl | rfl | rfl | rfl<;>rfl
def cfgLit (c:Cfg):Array Value:=#[.int .i64 c.b,.int .i64 c.d,.int .u8 (c.key 0),.int .u8 (c.key 1),.int .u8 (c.key 2),.int .u8 (c.key 3),.int .u8 (c.key 4),.int .u8 (c.key 5),.int .u8 (c.key 6),.int .u8 (c.key 7),.int .u8 (c.key 8),.int .u8 (c.key 9),.int .u8 (c.key 10),.int .u8 (c.key 11),.int .u8 (c.key 12),.int .u8 (c.key 13),.int .u8 (c.key 14),.int .u8 (c.key 15),.int .u8 (c.code 0),.int .u8 (c.code 1),.int .u8 (c.code 2),.int .u8 (c.code 3),.int .u8 (c.code 4),.int .u8 (c.code 5),.int .u8 (c.code 6),.int .u8 (c.code 7),.int .u8 (c.code 8),.int .u8 (c.code 9),.int .u8 (c.code 10),.int .u8 (c.code 11),.int .u8 (c.code 12),.int .u8 (c.code 13),.int .u8 (c.code 14),.int .u8 (c.code 15),.bool c.ig,.bool c.cm,.bool c.ac,.int .i64 c.ds,.int .i64 c.ro]
theorem cfgLit_eq (c:Cfg):c.arr=cfgLit c:=by kernel_rfl
theorem k_check (f:Nat->Int) (W:World):(Instr.checkKey false 10000 23 (.agg (kArr f))).run Tryz.prog W=.ok () W:=by kernel_rfl
theorem k_put0 (f:Nat->Int) (W:World) (m:Nat) (h:W.heap[m]? = some (.map #[] 0)):(Instr.mapUpdate 79 (.map (some m)) (.agg (kArr f)) (.bool true)).run Tryz.prog W=.ok () (W.putObj m (.map #[{ key:=.agg (kArr f),val:=.bool true,born:=0 }] 1)):=by
 have hf:∀W:World,(Instr.findKey 23 (.agg (kArr f)) []).run Tryz.prog W=.ok none W:=fun W=>by
  simp[Instr.findKey,run_underlying Tryz.underlying23,Instr.findNow,Result.andThen]
 simp[Instr.mapUpdate,run_underlying Tryz.underlying79,MapKept.run_getObj_map h,k_check,hf,MapKept.run_setObj_map _ h,Result.andThen,World.putObj]
def zc14 (k:Nat):Value:=if k=3\/k=9\/k=12 then .bool false else if k=10 then .int .u8 0 else .int .i64 0
def zcC:Array Value:=Array.ofFn (n:=226) fun j=>if j.1=0 then .bool false else if j.1=225 then .int .i64 0 else zc14 ((j.1-1) % 14)
def resQ (mq:Nat) (qn:Nat->Nat) (y:Nat->Nat->Int):List QV:=(List.range mq).map fun k=>⟨qn k,y k,0⟩
def resP (m:Nat) (ct:Nat->Int) (pn:Nat->Nat) (z:Nat->Nat->Int):List PV:=(List.range m).map fun k=>⟨ct k,pn k,z k,true⟩
theorem uk_one (W:World) (m:Nat) (hm:m < W.heap.size) (f:Nat->Int):UK (W.putObj m (.map #[{ key:=.agg (kArr f),val:=.bool true,born:=0 }] 1)) m [kArr f]:=
 ⟨_,_,World.putObj_heap_same hm,rfl,fun e he=>by
  have:e={ key:=.agg (kArr f),val:=.bool true,born:=0 }:=by simpa using he
  rw[this]⟩
theorem KeepF.more {F:Nat->Prop} {w w1 w2:World} (h:KeepF F w w1) (hb:Below w1.heap.size w1 w2):KeepF F w w2:=h.trans (G:=fun _=>False) (KeepF.of_below hb) (fun _ _ h=>h.elim)
end Go.Proofs.YtnadmdadcpemnaaGreat
namespace Go.Proofs.YtnadmdadcpemnaaGreat
set_option linter.unusedVariables false
set_option linter.unusedSimpArgs false
open Go.RowKit
theorem infoCnt:∃i:TypeInfo,Tryz.prog.info? 77 = some i/\i.zero=some (.agg #[.int .u32 0,.slice none 0 0])/\i.size=2/\i.bytes=32:=by
 have h:(Tryz.prog.info? 77).map (fun i=>(i.zero,i.size,i.bytes))=some (some (.agg #[.int .u32 0,.slice none 0 0]),2,32):=by kernel_rfl
 cases hi:Tryz.prog.info? 77 with
 | none=>rw[hi]at h;cases h
 | some i=>
  rw[hi]at h;simp only[Option.map_some,Option.some.injEq,Prod.mk.injEq]at h
  exact⟨i,rfl,h.1,h.2.1,h.2.2⟩
section
variable {w w1 w':World} {B rb:Nat} {nx:Int} {us:Bool} {W R R' F:Nat->Prop} {qA qA':Option Addr} {qc qc':Nat} {lq lq':List WE} {pA pA':Option Addr} {pc pc':Nat} {lp lp':List PE}
end
end Go.Proofs.YtnadmdadcpemnaaGreat
namespace Go.Proofs.YtnadmdadcpemnaaGreat
set_option linter.unusedVariables false
set_option linter.unusedSimpArgs false
open Go.RowKit
attribute [local go_sem ↓] Go.wp_at_zero Go.wp_at_succ
section
variable {P:Program}
theorem sl_append_room (w:World) (t tx ty e:TypeId) (i:TypeInfo) (sz:Nat) (ht:P.underlying t=some (.slice e)) (hi:P.info? e=some i) (hsize:i.size=sz)
  {b o n c:Nat} {xs:List Value} (h:SL w e sz (some ⟨b,o,none⟩) n c xs) (x:Value) (m:Nat) (news:List Value) (hs:Src P sz tx x m news w) (hroom:n+m<=c) :
  ∃w',(Builtin.append_ #[t,tx] ty #[.slice (some ⟨b,o,none⟩) n c,x]).run P w=.ok (.slice (some ⟨b,o,none⟩) (n+m) c) w'/\SL w' e sz (some ⟨b,o,none⟩) (n+m) c (xs++news)/\KeepF (fun k=>k=b) w w':=by
 subst hsize;have hlen:(xs++news).length=(n+m)*i.size:=by rw[List.length_append,h.len,hs.newsLen,Nat.add_mul]
 rcases h.at_ with ⟨hA,_⟩ | ⟨b',o',cur,hA,h2,h3,h4,h5,h6⟩
 ·cases hA
 cases hA
 rcases Nat.eq_zero_or_pos m with rfl | hm
 ·have hn0:news=[]:=List.eq_nil_of_length_eq_zero (by rw[hs.newsLen];simp);subst hn0
  exact⟨w,run_append_nothing w t tx ty e i ht hi _ n c h3 x hs,by simpa using h,KeepF.refl⟩
 have hB:Blk w b e cur:=h2;have hle:o+(n+m)*i.size<=cur.size:=Nat.le_trans (Nat.add_le_add_left (Nat.mul_le_mul_right _ hroom) _) h5;have hnl:=hs.newsLen;have hadd:(n+m)*i.size=n*i.size+news.length:=by rw[Nat.add_mul,hnl]
 have hr:=run_append_room_src (P:=P) w t tx ty e i ht hi b o n c x m news hs hroom (fun j hj=>by rw[hB.cell];rw[Array.getElem?_eq_getElem (by omega)];rfl) (fun j _=>hB.frozen _);refine⟨_,hr,⟨hlen,.inr ⟨b,o,_,rfl,ts_setCells news (o+n*i.size) w cur hB,hroom,h4,by rw[tsAll_size];exact h5,fun j hj=>?_⟩⟩,ts_keep (F:=fun k=>k=b) (b:=b) rfl news _ w⟩;by_cases hjn:j < n*i.size
 ·rw[tsAll_out news _ cur _ (.inl (by omega)),h6 j hjn,List.getElem?_append_left (by rw[h.len];exact hjn)]
 ·have:=tsAll_in news (o+n*i.size) cur (j-n*i.size) (by omega) (by omega);rw[show o+n*i.size+(j-n*i.size)=o+j by omega]at this;rw[this,List.getElem?_append_right (by rw[h.len];omega),h.len]
end
theorem wp_sl_room {P:Program} {op:Oper} {a:Act} {K:Act->World->Prop} {Q:Exit->Act->World->Prop} (s x:Operand) (t tx:TypeId) (ho:op.op=.call { callee:=.builtin .append,args:=#[s,x],argTypes:=#[t,tx] })
  (w:World) (e:TypeId) (i:TypeInfo) (sz:Nat) (ht:P.underlying t=some (.slice e)) (hi:P.info? e=some i) (hsize:i.size=sz) (b o n c:Nat) (xs:List Value) (hsv:a.eval s=.slice (some ⟨b,o,none⟩) n c) (h:SL w e sz (some ⟨b,o,none⟩) n c xs)
  (xv:Value) (hxv:a.eval x=xv) (m:Nat) (news:List Value) (hs:Src P sz tx xv m news w) (hroom:n+m<=c)
  (hK:∀w',SL w' e sz (some ⟨b,o,none⟩) (n+m) c (xs++news)->KeepF (fun k=>k=b) w w'->K (a.put op.dst (.slice (some ⟨b,o,none⟩) (n+m) c)) w'):op.wp P a w K Q:=by
 have hf:=fun ty=>@sl_append_room P w t tx ty e i sz ht hi hsize b o n c xs h xv m news hs hroom;obtain⟨w',hrun,h1,h2⟩:=hf op.type;unfold Oper.wp execOp;simp only[ho,resolve,invoke,builtin,Sem.run_bind,Sem.run_pure,Result.andThen_ok,List.map_toArray,List.map_cons,List.map_nil,hsv,hxv,hrun]
 exact hK w' h1 h2
end Go.Proofs.YtnadmdadcpemnaaGreat

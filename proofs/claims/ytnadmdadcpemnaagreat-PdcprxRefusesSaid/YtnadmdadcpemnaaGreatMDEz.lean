import Derived.Test.YtnadmdadcpemnaaGreatMVSz
import Derived.Test.YtnadmdadcpemnaaGreatMDAz
import Derived.WalkKit
import Derived.OwnWalkIn
import Derived.TacticsInMore
import Derived.LoopNIn
import Derived.LoopIn
import Derived.RangeFuncCalls
import Derived.BigRegion
import Derived.Sort.MapsRangeIn
import Derived.RangeFuncSeq
import Derived.RangeFuncBox
import Derived.RangeFuncFrom
namespace Go.Proofs.YtnadmdadcpemnaaGreat
open Go.RowKit
set_option linter.unusedVariables false
private theorem zh {p:Prop} (h:p):Go.RowKit.Hid p:=h
private theorem tkH {P:Program} {ops:Array Oper} {Q:Exit→Act→World→Prop} {md:Region.Mode} {S:World→Prop} {i:Nat} {oi:Oper} {v:Value} {fuel:Nat} {listed l':Array Bool} {a a':Act} {w:World} (hi:ops[i]? = some oi) (hy:YieldsIf P ops S oi v a) (hS:S w)
  (h:wpAnyH P md ops Q S fuel l' a' w) (hl:listed.setIfInBounds i true=l':=by(try simp only[List.setIfInBounds_toArray,List.set_cons_zero,List.set_cons_succ]);rfl) (ha:a.put oi.dst v=a':=by(try simp only[Act.put,List.setIfInBounds_toArray,List.set_cons_zero,List.set_cons_succ]);rfl) (hs:Region.noSelect ops=true:=by kernel_rfl) (hf:Region.free md ops listed i=true:=by kernel_rfl) (hr:(Region.ready md ops listed).contains i=true:=by kernel_rfl)
  (hQ:∀c a w,Q (.panic c) (a.put oi.dst v) w→Q (.panic c) a w:=by exact fun _ _ _ h=>h):wpAnyH P md ops Q S (fuel+1) listed a w:=by subst hl;subst ha;exact wpAnyH_take hi hs hf hr hQ hy hS h
def SeqWork {α ι:Type} (F:Fence) (n:Nat) (P:Program) (g:Nat) (lb:Array Value) (encs:α→Array Value) (R0:World→Prop) (Rk:ι→List α→World→Prop) (St:World→World→Prop) (S:List α→Prop):Prop:=
 ∀(l:Nat) (J:List α→World→Prop) (W:World),R0 W→(∀pre A B,J pre A→St A B→J pre B)→
  (∀i pre x W1,J pre W1→Rk i (pre++[x]) W1→YieldAt F (n-1) P l (encs x) W1 fun e W'=>e=.returned (.bool true)∧J (pre++[x]) W'∧Rk i (pre++[x]) W')→
  J [] W→
  CallsIn F n P g (#[.func (.yield l) #[] #[]]++lb) W fun e W'=>(∃v,e=.returned v)∧∃i xs,S xs∧J xs W'∧Rk i xs W'
def LoopFrom {β:Type} (B:Nat) (I:β→World→Prop):Prop:=
 ∀s W W' row,I s W→W.grownBy W' row→(∀r,row=some r→B≤r∧∃o:Obj,W.heap[r]? = some o∧o.isCells=false∧o.isWalk=false)→I s W'
theorem LoopFrom.putObj {β:Type} {B:Nat} {I:β→World→Prop} (h:LoopFrom B I) {s:β} {W:World} {l:Nat} {o:Obj} (o':Obj) (hs:I s W) (hB:B≤l) (hl:W.heap[l]? = some o) (ho:o.isCells=false) (hw:o.isWalk=false):I s (W.putObj l o'):=
 h s W _ (some l) hs (grownBy_putObj' W l o') (fun r e=>by cases e;exact⟨hB,o,hl,ho,hw⟩)
theorem LoopFrom.alloc {β:Type} {B:Nat} {I:β→World→Prop} (h:LoopFrom B I) {s:β} {W:World} (o:Obj) (hs:I s W):I s (W.alloc o):=
 h s W _ none hs (World.grownBy_alloc W o none) (fun r e=>by cases e)
def workPost (B:Nat) (W:World) (G:World→Prop):Exit→Act→World→Prop
 | .normal,_,W'=>KeepsFrom B W W'∧G W'
 | _,_,_=>False
theorem KeepF.same {Fo:Nat→Prop} {A B:World} {k:Nat} {o:Obj} (h:KeepF Fo A B) (hk:A.heap[k]? = some o) (hn:¬Fo k):B.heap[k]? = some o:=(h.block k (Array.getElem?_eq_some_iff.1 hk).1 hn).trans hk
theorem wpIn_rangeFunc_work {F:Fence} {n:Nat} {P:Program} {α ι:Type} {g:Operand} {ps:Array Tmp} {assign body:Code} {Q:Exit→Act→World→Prop} {a:Act} {w:World}
  (hro:F.round=none) (h1:1≤n) {gf:Nat} {lb:Array Value} (hg:a.eval g=.func (.func gf) #[] lb) (hFg:F.fn gf) (eg:∀args w,(callFunc gf args).run P w=.ok (.enter gf args) w)
  {encs:α→Array Value} {R0:World→Prop} {Rk:ι→List α→World→Prop} {St:World→World→Prop} {S:List α→Prop} (hseq:SeqWork F (n-1) P gf lb encs R0 Rk St S) (hps:∀x,(encs x).size=ps.size)
  (hSt:∀A B k o,St A B→w.heap.size≤k→A.heap[k]? = some o→o.isCells=false→o.isWalk=false→B.heap[k]? = some o) (I:List α→World→Prop) (hI:LoopFrom w.heap.size I) (hIF:∀pre A B,I pre A→St A B→I pre B) (hR:∀i,LoopFrom w.heap.size (Rk i)) (h0:I [] w) (hR0:LoopFrom w.heap.size (fun(_:Unit)=>R0)) (hR1:R0 w) (a₁:α→Act)
  (hassign:∀(l:Nat) (x:α) (W:World) (K:Act→World→Prop),K (a₁ x) W→
   assign.wpIn (F.inRound l) (n-1-1) P (Exit.then K (fun _ _ _=>False)) { tmps:=(ps.zip (encs x)).foldl (fun t (p,v)=>t.setIfInBounds p v) a.tmps,defers:=[] } W)
  (hbody:∀(l:Nat) (i:ι) (pre:List α) (x:α) (W:World),I pre W→Rk i (pre++[x]) W→body.wpIn (F.inRound l) (n-1-1) P (workPost w.heap.size W fun W'=>I (pre++[x]) W'∧Rk i (pre++[x]) W') (a₁ x) W)
  (hdone:∀(D:Nat) (i:ι) (xs:List α) (W:World),w.heap.size≤D→S xs→I xs W→Rk i xs W→W.heap[D]? = some (.deferred (some []))→Q .normal { a with defers:={ target:=.collected D,args:=#[] } :: a.defers } W) :
  (Code.rangeFunc g ps assign body).wpIn F n P Q a w:=by
 refine wpIn_rangeFunc fun fn hfn=>?_
 rw[hro]
 obtain⟨rec,hrec⟩:∃rec:LoopState→Option Code→Loop,rec=fun st pe=>{ state:=st,pending:=pe,fn,tmps:=a.tmps,params:=ps,assign,body,defers:=w.heap.size }:=⟨_,rfl⟩
 obtain⟨r,hr0⟩:∃r,r=w.heap.size+1:=⟨_,rfl⟩
 obtain⟨W1,hW1⟩:∃W1,(w.alloc (.deferred (some []))).alloc (.loop (rec .ready none))=W1:=⟨_,rfl⟩
 have hL1:W1.heap[r]? = some (.loop (rec .ready none)):=by
  rw[←hW1,hr0]
  have:=World.alloc_heap_new (w.alloc (.deferred (some []))) (.loop (rec .ready none))
  rwa [World.size_alloc]at this
 have hK1:W1.heap[w.heap.size]? = some (.deferred (some [])):=by
  rw[←hW1]
  exact(Below.heap_alloc _ _ _ (by simp)).trans (World.alloc_heap_new w _)
 have hI1:I [] W1:=by rw[←hW1];exact hI.alloc _ (hI.alloc _ h0)
 have hR2:R0 W1:=by rw[←hW1];exact hR0.alloc (s:=()) _ (hR0.alloc (s:=()) _ hR1)
 refine⟨r,[{ target:=.collected w.heap.size,args:=#[] }],W1,{ target:=.fn (.func gf) lb,args:=#[.func (.yield r) #[] #[]] },W1,gf,#[.func (.yield r) #[] #[]]++lb,W1,?_,?_,?_,?_,fun _=>h1,?_⟩
 ·rw[←hW1,hrec,hr0];exact run_enterLoop_outer _ _ _ _ _
 ·simp only[resolve,hg]
  simp[go_sem]
 ·intro f' hf'
  simp[Target.leads]at hf'
  subst hf'
  exact hFg
 ·simp[invoke,go_sem,eg]
 ·refine(hseq r (fun pre W=>I pre W∧W.heap[r]? = some (.loop (rec .ready none))∧W.heap[w.heap.size]? = some (.deferred (some []))) W1 hR2
   (fun pre A B h hk=>⟨hIF pre A B h.1 hk,hSt A B r _ hk (by omega) h.2.1 rfl rfl,hSt A B _ _ hk (Nat.le_refl _) h.2.2 rfl rfl⟩) ?_ ⟨hI1,hL1,hK1⟩).mono ?_
  ·rintro i pre x W ⟨hi,hl,hk⟩ hrk
   have hlt:r < W.heap.size:=(Array.getElem?_eq_some_iff.1 hl).1
   have hy:=run_yield (P:=P) (args:=encs x) hl (by rw[hrec];exact hps x)
   rw[hrec]at hy
   refine⟨fn,_,assign,body,hy,roundIn_of_wpIn hfn (hassign _ x W _ ⟨_,run_beginRound hl (by rw[hrec]),?_⟩)⟩
   obtain⟨W2,hW2⟩:∃W2,W.putObj r (.loop { rec .ready none with state:=.busy })=W2:=⟨_,rfl⟩
   rw[hW2]
   have hl2:W2.heap[r]? = some (.loop { rec .ready none with state:=.busy }):=by rw[←hW2];exact World.putObj_heap_same hlt
   have hk2:W2.heap[w.heap.size]? = some (.deferred (some [])):=by rw[←hW2];exact(World.putObj_heap_other (by omega)).trans hk
   have hi2:I pre W2:=by rw[←hW2];exact hI.putObj _ hi (by omega) hl rfl rfl
   have hr2:Rk i (pre++[x]) W2:=by rw[←hW2];exact(hR i).putObj _ hrk (by omega) hl rfl rfl
   refine wpIn_mono (hbody _ i pre x W2 hi2 hr2) ?_
   rintro e a3 W3 hp
   cases e with
   | normal=>
    obtain⟨hk3,hi3,hr3⟩:=hp
    have hl3:=hk3.same _ _ (by omega) hl2 rfl
    have hend:=run_endRound (P:=P) none hl3
    rw[hrec]at hend hl3
    refine⟨_,_,hend,rfl,⟨hI.putObj _ hi3 (by omega) hl3 rfl rfl,?_,(World.putObj_heap_other (by omega)).trans (hk3.same _ _ (Nat.le_refl _) hk2 rfl)⟩,(hR i).putObj _ hr3 (by omega) hl3 rfl rfl⟩
    rw[hrec]
    exact World.putObj_heap_same (Array.getElem?_eq_some_iff.1 hl3).1
   | ret=>exact hp.elim
   | exit id=>exact hp.elim
   | goto t=>exact hp.elim
   | panic ch=>exact hp.elim
   | outgrown=>exact hp.elim
  ·rintro e W2 ⟨⟨v,rfl⟩,i,xs,hxs,⟨hi,hl,hk⟩,hrk⟩
   have hend:=run_endLoop (P:=P) hl (by rw[hrec];simp)
   rw[hrec]at hend hl
   exact⟨none,_,hend,hdone _ i _ _ (Nat.le_refl _) hxs (hI.putObj _ hi (by omega) hl rfl rfl) ((hR i).putObj _ hrk (by omega) hl rfl rfl) ((World.putObj_heap_other (by omega)).trans hk)⟩
end Go.Proofs.YtnadmdadcpemnaaGreat
namespace Go.Proofs.YtnadmdadcpemnaaGreat
open Go.RowKit
set_option linter.unusedVariables false
attribute [local go_sem] Oper.semAt_some
def fromE:List SE→Int→List SE×List SE
 | [],d=>([],[])
 | e :: r,d=>if e.v.ct=d then (e :: (fromE r (d+1)).1,(fromE r (d+1)).2) else ([],e :: r)
theorem fromE_map:∀(l:List SE) (d:Int),(fromE l d).1.map (·.v)=(fromL (l.map (·.v)) d).1∧(fromE l d).2.map (·.v)=(fromL (l.map (·.v)) d).2.1
 | [],d=>⟨rfl,rfl⟩
 | e :: r,d=>by
  have h:=fromE_map r (d+1)
  rw[List.map_cons]
  unfold fromE fromL
  split
  ·exact⟨by rw[List.map_cons,h.1],h.2⟩
  ·exact⟨rfl,rfl⟩
theorem fromE_app:∀(l:List SE) (d:Int),(fromE l d).1++(fromE l d).2=l
 | [],d=>rfl
 | e :: r,d=>by
  unfold fromE
  split
  ·simp only[List.cons_append,fromE_app r (d+1)]
  ·rfl
def NoGap (l:List SE) (d:Int):Prop:=∀(k:Nat) (e:SE),l[k]? = some e→e.v.ct=d+k
theorem fromE_of:∀(pre rest:List SE) (d:Int),NoGap pre d→(∀e r,rest=e :: r→e.v.ct ≠ d+pre.length)→fromE (pre++rest) d=(pre,rest)
 | [],[],d,_,_=>rfl
 | [],e :: r,d,_,h=>by
  have:=h e r rfl
  unfold fromE
  simp only[List.nil_append]
  rw[if_neg (by simpa using this)]
 | e :: p,rest,d,hc,h=>by
  have h0:e.v.ct=d:=by have:=hc 0 e rfl;simpa using this
  have ih:=fromE_of p rest (d+1) (fun k x hk=>by have:=hc (k+1) x (by simpa using hk);rw[this];push_cast;omega) (fun x r hx=>by have:=h x r hx;simp only[List.length_cons]at this;push_cast at this;omega)
  rw[List.cons_append]
  unfold fromE
  rw[if_pos h0,ih]
def mapSize (w:World) (m:Nat):Nat:=match w.heap[m]? with | some (.map es _)=>es.size | _=>0
theorem SM.size {w:World} {m:Nat} {l:List SE} (h:SM w m l):mapSize w m=l.length:=by
 obtain⟨es,c,h1,h2,h3,h4⟩:=h
 unfold mapSize
 rw[h1]
 have:l.map SE.kv=(es.toList.map (WideElems.rg Tryz.prog 43 RV)).foldr DataW.insert []:=by injection h4
 have h5:=congrArg List.length this
 rw[length_sorted]at h5
 simpa using h5.symm
def FromR (g:Nat) (s:RS) (Ws R:Nat→Prop) (sb:Nat) (l0:List SE) (ub eb bx:Nat) (pre:List SE) (W:World):Prop:=
 ∃rest,l0=pre++rest∧NoGap pre s.deliver∧RxM W g { s with L:=rest.map (·.v),deliver:=s.deliver+pre.length } Ws R sb rest ub eb∧Blk W bx 30 #[.pointer (some ⟨g,0,none⟩)]
theorem cons_snoc {pre:List SE} {d:Int} {e:SE} (h:NoGap pre d) (he:e.v.ct=d+pre.length):NoGap (pre++[e]) d:=fun k x hk=>by
 rcases Nat.lt_trichotomy k pre.length with h1 | h1 | h1
 ·rw[List.getElem?_append_left h1]at hk;exact h k x hk
 ·subst h1
  rw[List.getElem?_append_right (Nat.le_refl _),Nat.sub_self]at hk
  have:e=x:=by simpa using hk
  rw[←this];exact he
 ·rw[List.getElem?_eq_none (by simp;omega)]at hk;cases hk
def LookOk (v:Value) (b:Bool) (rest:List SE) (d:Int):Prop:=(∃e r,rest=e :: r∧e.v.ct=d∧v=e.val∧b=true)∨((∀e r,rest=e :: r→e.v.ct ≠ d)∧v=.slice none 0 0∧b=false)
theorem RxM.look {w:World} {g:Nat} {s:RS} {W R:Nat→Prop} {sb:Nat} {l:List SE} {ub eb:Nat} (h:RxM w g s W R sb l ub eb) :
  ∃v b,(∀V:World,V.heap[sb]? = w.heap[sb]?→(Instr.lookup 78 (.map (some sb)) (.int .u64 s.deliver) true).run Tryz.prog V=.ok (.tuple #[v,.bool b]) V)∧LookOk v b l s.deliver:=by
 have h0:=h.ok.deliver
 have h1:=h.ok.next
 have key:∀V:World,V.heap[sb]? = w.heap[sb]?→(Instr.lookup 78 (.map (some sb)) (.int .u64 s.deliver) true).run Tryz.prog V=.ok (.tuple #[(match findS s.deliver l with | some e=>e.val | none=>.slice none 0 0),.bool (findS s.deliver l).isSome]) V:=fun V hV=>by
  obtain⟨es,c,e1,e2⟩:=h.st
  exact smap_get ⟨es,c,hV.trans e1,e2⟩ h0.1 (by omega)
 cases hl:l with
 | nil=>
  subst hl
  exact⟨_,_,key,.inr ⟨fun e r h=>(by cases h),rfl,rfl⟩⟩
 | cons e r=>
  subst hl
  have hf:=findS_head (f:=s.deliver) h.ris (fun x hx=>(h.rng x hx).1)
  by_cases he:e.v.ct=s.deliver
  ·rw[if_pos he]at hf
   rw[hf]at key
   exact⟨_,_,key,.inl ⟨e,r,rfl,he,rfl,rfl⟩⟩
  ·rw[if_neg he]at hf
   rw[hf]at key
   exact⟨_,_,key,.inr ⟨fun x r' h=>(by injection h with h1 h2;subst h1;exact he),rfl,rfl⟩⟩
theorem RxM.del {w:World} {g:Nat} {s:RS} {W R:Nat→Prop} {sb:Nat} {e:SE} {r:List SE} {ub eb:Nat} (h:RxM w g s W R sb (e :: r) ub eb) (he:e.v.ct=s.deliver) :
  ∃w',(∀ty,(Builtin.delete_ #[78,43] ty #[.map (some sb),.int .u64 s.deliver]).run Tryz.prog w=.ok (.tuple #[]) w')∧RxM w' g { s with L:=r.map (·.v) } W R sb r ub eb∧KeepF (fun k=>k=sb) w w'∧s.deliver+1≤s.next∧(∀x,x∈r→s.deliver+1≤x.v.ct):=by
 have h0:=h.ok.deliver
 have h1:=h.ok.next
 obtain⟨w',hrun,hm,hk⟩:=smap_del h.st (f:=s.deliver) h0.1 (by omega) 0
 have hd:delS s.deliver (e :: r)=r:=by rw[←he];exact delS_head h.ris
 rw[hd]at hm
 have hr:(∀x,x∈r→e.v.ct < x.v.ct)∧Rising r:=List.pairwise_cons.1 h.ris
 refine⟨w',fun ty=>hrun,h.setMap hk hm hr.2 rfl (fun x hx=>h.rng x (by simp[hx])) (fun x hx=>h.pk x (by simp[hx])),hk,?_,fun x hx=>?_⟩
 ·have:=(h.rng e (by simp)).2
  omega
 ·have:=hr.1 x hx
  omega
theorem wp_delete_run {P:Program} {o:Oper} {a:Act} {w w':World} {K:Act→World→Prop} {Q:Exit→Act→World→Prop} {t k:TypeId} {vx vy r:Value} (x y:Operand) (ho:o.op=.call { callee:=.builtin .delete,args:=#[x,y],argTypes:=#[t,k] })
  (hx:a.eval x=vx) (hy:a.eval y=vy) (hrun:∀ty,(Builtin.delete_ #[t,k] ty #[vx,vy]).run P w=.ok r w') (hK:K (a.put o.dst r) w'):o.wp P a w K Q:=by
 unfold Oper.wp execOp
 simp only[ho,resolve,invoke,builtin,Sem.run_bind,Sem.run_pure,Result.andThen_ok,List.map_toArray,List.map_cons,List.map_nil,hx,hy,hrun]
 exact hK
set_option maxRecDepth 100000 in
set_option maxHeartbeats 3200000 in
theorem from_seq (g:Nat) (s:RS) (Ws R:Nat→Prop) (sb:Nat) (l0:List SE) (ub eb bx n:Nat) (hn:1≤n) (hbg:bx ≠ g) (hbs:bx ≠ sb) :
  SeqWork Fence.wide n Tryz.prog 66 #[.pointer (some ⟨bx,0,none⟩)] (fun e:SE=>#[e.val]) (FromR g s Ws R sb l0 ub eb bx []) (fun _:Unit=>FromR g s Ws R sb l0 ub eb bx) (KeepF (fun k=>k=g∨k=sb)) (fun xs=>xs=(fromE l0 s.deliver).1):=fun l J W h0 hJ hY hJ0=>by
 have HJ:=zh hJ
 have HY:=zh hY
 have HBX:=zh (And.intro hbg hbs)
 clear hJ hY
 obtain⟨rest,hl0,hc0,hT,hB⟩:=h0
 have hT:RxM W g { s with L:=rest.map (·.v),deliver:=s.deliver } Ws R sb rest ub eb:=by simpa using hT
 obtain⟨v,b,hlk,hlo⟩:=hT.look
 have HLK:=zh hlk
 have HLO:=zh hlo
 have HT:=zh hT
 have HB:=zh hB
 have b0:W.cell? ⟨bx,0,none⟩=some (.pointer (some ⟨g,0,none⟩)):=hB.cell 0
 have c2:=hT.cs
 obtain⟨d0,hd0⟩:∃x,x=s.deliver:=⟨_,rfl⟩
 have c1:W.cell? ⟨g,41,none⟩=some (.int .u64 d0):=by rw[hd0];exact hT.cdeliver
 have hlk1:(Instr.lookup 78 (.map (some sb)) (.int .u64 d0) true).run Tryz.prog W.drew=.ok (.tuple #[v,.bool b]) W.drew:=by rw[hd0];exact hlk _ rfl
 have HD0:=zh hd0
 have HL0:=zh hl0
 have HC0:=zh hc0
 clear hT hB hlk hlo hd0 hl0 hc0
 refine callsIn_of_wp Tryz.func66 rfl trivial ?_ rfl
 simp only[Tryz.ntmps66,List.size_toArray,List.length_cons,List.length_nil,Nat.reduceAdd,Nat.reduceSub,Array.replicate_succ,Array.replicate_zero,List.push_toArray,List.append_toArray,List.nil_append,List.cons_append]
 gi_wp2
 refine wpIn_wide.2 ?_
 go_region
 clear hlk1 b0 c1 c2
 gi_wp2
 gi_loopw [3,4] (fun v3 v4 wr=>∃(pre rest:List SE) (v:Value) (b:Bool),l0=pre++rest∧NoGap pre s.deliver∧RxM wr g { s with L:=rest.map (·.v),deliver:=s.deliver+pre.length } Ws R sb rest ub eb∧Blk wr bx 30 #[.pointer (some ⟨g,0,none⟩)]∧J pre wr∧v3=v∧v4=.bool b∧LookOk v b rest (s.deliver+pre.length)) (fun _ _ wr=>mapSize wr sb)
 case atStart=>exact⟨[],rest,v,b,HL0.out,HC0.out,by simpa using HT.out.drew_,HB.out.drew,HJ.out _ _ _ hJ0 KeepF.refl.drew,rfl,rfl,by simpa using HLO.out⟩
 case round=>
  clear HLK HLO HT HB HD0 HL0 HC0 hJ0
  obtain⟨pre,rest,v1,b1,hl0,hc0,hT,hB,hJp,rfl,rfl,hlo⟩:=hrel
  have HL0:=zh hl0
  have HC0:=zh hc0
  have HT:=zh hT
  have HB:=zh hB
  have HJP:=zh hJp
  clear hl0 hc0 hT hB hJp
  rcases hlo with ⟨e,r,rfl,he,rfl,rfl⟩ | ⟨hne,rfl,rfl⟩
  rotate_left
  ·have HS:=zh (show(fromE l0 s.deliver).1=pre by rw[HL0.out,fromE_of pre rest s.deliver HC0.out hne])
   gi_wp2
   go_end0
   exact⟨⟨_,rfl⟩,(),pre,HS.out.symm,HJP.out,⟨rest,HL0.out,HC0.out,HT.out,HB.out⟩⟩
  ·obtain⟨d,hd⟩:∃d,d=s.deliver+(pre.length:Int):=⟨_,rfl⟩
   have HD:=zh hd
   have TW:=HT.out.drew_
   rw[←hd]at TW he
   obtain⟨w1,hdel,hT1,hK1,hnx,hge⟩:=TW.del he
   have hok:=TW.ok
   have hdd:=hok.deliver
   have hdn:=hok.next
   have HRD:=zh (show ∀W',KeepF (fun k=>k=sb) wr W'→W'.cell? ⟨bx,0,none⟩=some (.pointer (some ⟨g,0,none⟩))∧W'.cell? ⟨g,43,none⟩=some (.map (some sb))∧W'.cell? ⟨g,41,none⟩=some (.int .u64 d)from fun W' hW=>⟨(hW.blk HB.out HBX.out.2).cell 0,(hW.cell (p:=⟨g,43,none⟩) HT.out.blk.lt HT.out.gs).trans HT.out.cs,(hW.cell (p:=⟨g,41,none⟩) HT.out.blk.lt HT.out.gs).trans TW.cdeliver⟩)
   have HT1:=zh hT1
   have hK2:KeepF (fun k=>k=sb) wr w1:=(KeepF.refl (F:=fun k=>k=sb) (w:=wr)).drew.trans hK1 (fun _ _ h=>h)
   have HK2:=zh hK2
   have HDEL:=zh hdel
   have hd0:0≤d:=hdd.1
   have hd1:d+1≤4294967296:=Int.le_trans hnx hdn
   have hT2:=hT1.setDeliver (d+1) ⟨by omega,hnx⟩ hge
   have hK3:KeepF (fun k=>k=g∨k=sb) wr (w1.setCell ⟨g,41,none⟩ (.int .u64 (d+1))):=(hK2.mono (fun k h=>.inr h)).setCell (p:=⟨g,41,none⟩) (.inl rfl) _
   have hBX3:Blk (w1.setCell ⟨g,41,none⟩ (.int .u64 (d+1))) bx 30 #[.pointer (some ⟨g,0,none⟩)]:=hK3.blk HB.out (fun h=>by rcases h with h | h;exact HBX.out.1 h;exact HBX.out.2 h)
   have hF3:FromR g s Ws R sb l0 ub eb bx (pre++[e]) (w1.setCell ⟨g,41,none⟩ (.int .u64 (d+1))):=⟨r,by rw[HL0.out];simp,cons_snoc HC0.out (by rw[he,hd]),by
    have e1:s.deliver+((pre++[e]).length:Int)=d+1:=by rw[hd];simp;omega
    rw[e1]
    exact hT2,hBX3⟩
   obtain⟨fn,tm,asg,bd,hy,hR⟩:=HY.out () pre e _ (HJ.out _ _ _ HJP.out hK3) hF3
   have HRr:=zh hR
   have HM:=zh (show mapSize wr sb=r.length+1 from HT.out.st.size)
   have e1c:=hT1.cdeliver
   have e1f:=hT1.fr 41
   have e1b:w1.cell? ⟨bx,0,none⟩=some (.pointer (some ⟨g,0,none⟩)):=(HRD.out _ hK2).1
   have wd1:IntKind.u64.wrap (d+1)=d+1:=by simp[IntKind.wrap_u64];omega
   clear TW hdel hT1 hK1 hnx hge hok hdd hdn hT2 hK3 hBX3 hF3 hR hd he
   gi_wp2
   refine wpIn_wide.2 ?_
   refine wp_region_held_drew (S:=fun w'=>KeepF (fun k=>k=sb) wr w') (by kernel_rfl) ((KeepF.refl (F:=fun k=>k=sb) (w:=wr)).drew) (fun hHeld=>?_)
   refine tkH (i:=0) (oi:=⟨some 30,_,_,_,_,_⟩) (v:=.pointer (some ⟨g,0,none⟩)) rfl (Or.inl ⟨by rfl,fun W hW=>(by have:=(HRD.out W hW).1;go_simp)⟩) (by assumption) ?_
   refine tkH (i:=1) (oi:=⟨some 31,_,_,_,_,_⟩) (v:=.pointer (some ⟨g,0,none⟩)) rfl (Or.inl ⟨by rfl,fun W hW=>(by go_simp)⟩) (by assumption) ?_
   refine tkH (i:=2) (oi:=⟨some 32,_,_,_,_,_⟩) (v:=.pointer (some ⟨g,43,none⟩)) rfl (Or.inl ⟨by rfl,fun W hW=>(by go_simp)⟩) (by assumption) ?_
   refine tkH (i:=3) (oi:=⟨some 33,_,_,_,_,_⟩) (v:=.map (some sb)) rfl (Or.inl ⟨by rfl,fun W hW=>(by have:=(HRD.out W hW).2.1;go_simp)⟩) (by assumption) ?_
   refine tkH (i:=4) (oi:=⟨some 34,_,_,_,_,_⟩) (v:=.pointer (some ⟨g,0,none⟩)) rfl (Or.inl ⟨by rfl,fun W hW=>(by have:=(HRD.out W hW).1;go_simp)⟩) (by assumption) ?_
   refine tkH (i:=5) (oi:=⟨some 35,_,_,_,_,_⟩) (v:=.pointer (some ⟨g,0,none⟩)) rfl (Or.inl ⟨by rfl,fun W hW=>(by go_simp)⟩) (by assumption) ?_
   refine tkH (i:=6) (oi:=⟨some 36,_,_,_,_,_⟩) (v:=.pointer (some ⟨g,41,none⟩)) rfl (Or.inl ⟨by rfl,fun W hW=>(by go_simp)⟩) (by assumption) ?_
   refine tkH (i:=7) (oi:=⟨some 37,_,_,_,_,_⟩) (v:=.int .u64 d) rfl (Or.inl ⟨by rfl,fun W hW=>(by have:=(HRD.out W hW).2.2;go_simp)⟩) (by assumption) ?_
   refine wpAnyH_ready (rs:=[8]) (by kernel_rfl) (by simp) ?_
   refine AllReadyH.cons (o:=⟨none,_,_,_,_,_⟩) rfl (fun K hK=>?_) AllReadyH.nil
   rw[if_pos (by rfl)]
   refine wp_delete_run _ _ rfl rfl rfl HDEL.out ?_
   refine hK.out _ _ hK2 (fun hHeld=>?_)
   clear hK K
   try simp only[Act.put]
   refine wpAnyH_done (by kernel_rfl) ?_ _
   clear hHeld hK2
   gi_wp2
   refine HRr.out.mono ?_
   rintro en w4 ⟨rfl,hJ4,hF4⟩
   obtain⟨rest4,hl4,hc4,hT4,hB4⟩:=hF4
   have hr4:rest4=r:=by
    have:=HL0.out
    rw[hl4,List.append_assoc]at this
    have:=List.append_cancel_left this
    simpa using this
   subst hr4
   obtain⟨v4,b4,hlk4,hlo4⟩:=hT4.look
   obtain⟨d4,hd4⟩:∃x,x=s.deliver+((pre++[e]).length:Int):=⟨_,rfl⟩
   have HLO4:=zh hlo4
   have HT4:=zh hT4
   have HB4:=zh hB4
   have HC4:=zh hc4
   have HL4:=zh hl4
   have HJ4:=zh hJ4
   have x0:w4.cell? ⟨bx,0,none⟩=some (.pointer (some ⟨g,0,none⟩)):=hB4.cell 0
   have x1:w4.cell? ⟨g,41,none⟩=some (.int .u64 d4):=by rw[hd4];exact hT4.cdeliver
   have x2:=hT4.cs
   have x3:(Instr.lookup 78 (.map (some sb)) (.int .u64 d4) true).run Tryz.prog w4.drew=.ok (.tuple #[v4,.bool b4]) w4.drew:=by rw[hd4];exact hlk4 _ rfl
   clear hlk4 hlo4 hT4 hB4 hc4 hl4 hJ4 hd4 e1c e1f e1b
   gi_wp2
   refine wpIn_wide.2 ?_
   go_region
   gi_wp2
   go_roundw
   case rel=>exact⟨pre++[e],rest4,v4,b4,HL4.out,HC4.out,HT4.out.drew_,HB4.out.drew,HJ.out _ _ _ HJ4.out KeepF.refl.drew,rfl,rfl,HLO4.out⟩
   case measure=>rw[HM.out,HT4.out.drew_.st.size];omega
end Go.Proofs.YtnadmdadcpemnaaGreat
namespace Go.Proofs.YtnadmdadcpemnaaGreat
open Go.RowKit
set_option linter.unusedVariables false
attribute [local go_sem] Oper.semAt_some
def KColl (D:DataW Value) (left:Lit→Bool) (ks:List Int):Prop:=ks.Nodup∧∀x,x∈ks↔(Maps.has D (.int .u64 x)=true∧left (.int .u64 x)=false)
theorem KColl.start (D:DataW Value):KColl D (Maps.has D) []:=⟨List.nodup_nil,fun x=>by cases Maps.has D (.int .u64 x)<;>simp⟩
theorem same_u64 (x y:Int):(Lit.int .u64 x).sameKey (.int .u64 y)=decide (x=y):=by
 show decide (IntKind.u64=IntKind.u64∧x=y)=_
 simp
theorem KColl.step {D:DataW Value} {left:Lit→Bool} {ks:List Int} (h:KColl D left ks) {x:Int} {y:DataW Value} (hlk:left (.int .u64 x)=true) (hat:∀zd,D.atKey (.int .u64 x) zd=y):KColl D (fun z=>left z && !z.sameKey (.int .u64 x)) (ks++[x]):=by
 have hhas:Maps.has D (.int .u64 x)=true:=Maps.has_true_of_atKey hat
 have hnew:x ∉ ks:=fun hx=>by have:=((h.2 x).1 hx).2;rw[hlk]at this;cases this
 refine⟨List.nodup_append.2 ⟨h.1,by simp,fun a ha b hb=>by simp at hb;subst hb;exact fun e=>hnew (e ▸ ha)⟩,fun y=>?_⟩
 dsimp only
 rw[same_u64]
 by_cases hy:y=x
 ·subst hy;simp[hhas]
 ·simp[h.2 y,hy]
theorem keyU_inv {key:Value} {kl:Lit} (h:keyOf Tryz.prog 43 key=some kl):∃x:Int,key=.int .u64 x∧kl=.int .u64 x∧0≤x∧x < 18446744073709551616:=by
 have hu:Tryz.prog.underlying 43 = some (.int .u64):=Tryz.underlying43
 cases key<;>simp[keyOf,hu,mapKey]at h
 rename_i q a
 obtain⟨⟨rfl,hw⟩,rfl⟩:=h
 have e1:IntKind.u64.min=0:=rfl
 have e2:IntKind.u64.max=18446744073709551615:=rfl
 simp[Lit.wf,e1,e2]at hw
 exact⟨a,rfl,rfl,hw.1,by omega⟩
def keysE (l:List SE):List Int:=l.map (·.v.ct)
theorem keys_perm {l:List SE} (hr:Rising l) {ks:List Int} (hnd:ks.Nodup) (hm:∀x,x∈ks↔Maps.has (DataW.map (l.map SE.kv)) (.int .u64 x)=true):ks.Perm (keysE l):=by
 refine(List.perm_ext_iff_of_nodup hnd ?_).2 fun x=>?_
 ·show(l.map (·.v.ct)).Nodup
  exact List.pairwise_map.2 (hr.imp fun h e=>by omega)
 ·rw[hm x,has_list]
  unfold keysE
  rw[List.mem_map]
  constructor
  ·intro h
   obtain⟨e,he⟩:=Option.isSome_iff_exists.1 h
   obtain⟨h1,h2⟩:=findS_some he
   exact⟨e,h1,h2⟩
  ·rintro ⟨e,h1,h2⟩
   cases hf:findS x l with
   | some _=>rfl
   | none=>exact absurd h2 (findS_none_iff.1 hf e h1)
def KeyR (sb:Nat) (l:List SE) (B:Nat) (i:Nat×(Lit→Bool)×Nat) (pre:List Int) (W:World):Prop:=
 B≤i.1∧W.ranges Tryz.prog 43 RV sb i.1 l.length (.map (l.map SE.kv)) i.2.1 i.2.2∧KColl (.map (l.map SE.kv)) i.2.1 pre
def KeyR0 (sb:Nat) (l:List SE) (bx:Nat) (W:World):Prop:=SM W sb l∧Blk W bx 78 #[.map (some sb)]
def KeySt (B:Nat) (A A':World):Prop:=∃row,A.grownBy A' row∧∀r,row=some r→B≤r∧∃o:Obj,A.heap[r]? = some o∧o.isWalk=true
theorem keys_made (sb:Nat) (w:World):Calls Tryz.prog 45 #[.map (some sb)] w fun e w'=>e=.returned (.func (.func 72) #[] #[.pointer (some ⟨w.heap.size,0,none⟩)])∧w.alloc (.cells #[.map (some sb)] 78)=w':=by
 go_enter Tryz.func45,Tryz.ntmps45
 go_wp2
 go_ret
 exact⟨rfl,rfl⟩
set_option maxRecDepth 100000 in
set_option maxHeartbeats 3200000 in
theorem keys_seq (sb:Nat) (l:List SE) (hr:Rising l) (bx B n:Nat) (hn:1≤n) :
  SeqWork Fence.wide n Tryz.prog 72 #[.pointer (some ⟨bx,0,none⟩)] (fun k:Int=>#[.int .u64 k]) (fun W=>KeyR0 sb l bx W∧B≤W.heap.size) (KeyR sb l B) (KeySt B) (fun ks=>ks.Perm (keysE l)):=fun lp J W h0 hJ hY hJ0=>by
 have HJ:=zh hJ
 have HY:=zh hY
 have HRI:=zh hr
 obtain⟨⟨hS,hB⟩,hBW⟩:=h0
 have hown:W.ownsMap Tryz.prog 43 RV sb l.length (.map (l.map SE.kv)):=hS
 have b0:W.cell? ⟨bx,0,none⟩=some (.map (some sb)):=hB.cell 0
 have HBW:=zh hBW
 clear hJ hY hr hS hB hBW
 refine callsIn_of_wp Tryz.func72 rfl trivial ?_ rfl
 simp only[Tryz.ntmps72,List.size_toArray,List.length_cons,List.length_nil,Nat.reduceAdd,Nat.reduceSub,Array.replicate_succ,Array.replicate_zero,List.push_toArray,List.append_toArray,List.nil_append,List.cons_append]
 gi_wp2_with (first
  | (gi_at_range;refine wpListIn_range_own _ rfl _ 78 rfl 43 35 keyU Tryz.underlying78 RV sb l.length _ rfl hown ?_;intro w0 hrg0 hg0 hs0)
  | gi_in)
 gi_loopw [3] (fun _ wr=>∃(left:Lit→Bool) (cnt:Nat) (ks:List Int),wr.ranges Tryz.prog 43 RV sb W.heap.size l.length (.map (l.map SE.kv)) left cnt∧KColl (.map (l.map SE.kv)) left ks∧J ks wr)
  (fun _ wr=>wr.rangeLeft sb W.heap.size)
 case atStart=>exact⟨_,_,[],hrg0,KColl.start _,HJ.out _ _ _ hJ0 ⟨none,hg0,fun r e=>by cases e⟩⟩
 case round=>
  obtain⟨left,cnt,ks,hrg,hC,hJs⟩:=hrel
  gi_wp2_with (first
   | (gi_at_next;refine wpListIn_next_ranges _ rfl _ rfl 43 keyU RV (fun x:Int=>.int .u64 x) id (fun key kl hk=>by obtain⟨x,hx,_⟩:=keyU_inv hk;exact⟨x,hx⟩) (fun v _ _=>⟨v,rfl⟩) sb W.heap.size l.length _ _ _ rfl hrg ?_ ?_)
   | gi_in)
  ·intro hc0 hl0
   gi_wp2
   go_end0
   refine⟨⟨_,rfl⟩,(W.heap.size,left,cnt),ks,keys_perm HRI.out hC.1 (fun x=>?_),hJs,⟨HBW.out,hrg,hC⟩⟩
   rw[hC.2 x,hl0]
   simp
  ·intro x c kl yd yp w2 cnt2 hkey hlk hv hat hrg2 hlt hg2 hs2 hen
   obtain⟨x',ex,rfl,_⟩:=keyU_inv hkey
   obtain rfl:x=x':=by injection ex
   have hJ2:J ks w2:=HJ.out ks wr w2 hJs ⟨some W.heap.size,hg2,fun r e=>by cases e;exact⟨HBW.out,hrg.iter_walk⟩⟩
   obtain⟨fn,tmps,assign,body,hy,hR⟩:=HY.out (W.heap.size,_,cnt2) ks x w2 hJ2 ⟨HBW.out,hrg2,hC.step hlk hat⟩
   have HRr:=zh hR
   have HLT:=zh hlt
   have HLE:=zh hrg.left_eq
   clear hs2 hR hlt hrg hC hJs hJ2 hrg2 hg2
   gi_wp2
   refine HRr.out.mono ?_
   rintro e W3 ⟨rfl,hJ3,_,hrg3,hC3⟩
   have HRG3:=zh hrg3
   have HC3:=zh hC3
   clear hrg3 hC3
   gi_wp2
   go_roundw
   case rel=>exact⟨_,cnt2,ks++[x],HRG3.out,HC3.out,hJ3⟩
   case measure=>rw[HRG3.out.left_eq,HLE.out];exact HLT.out
end Go.Proofs.YtnadmdadcpemnaaGreat
namespace Go.Proofs.YtnadmdadcpemnaaGreat
open Go.RowKit
set_option linter.unusedVariables false
attribute [local go_sem] Oper.semAt_some
theorem keyR_loop (sb:Nat) (l:List SE) (B:Nat) (i:Nat×(Lit→Bool)×Nat) (N:Nat):LoopFrom N (KeyR sb l B i):=fun s A A' row ⟨h1,h2,h3⟩ hg hr=>by
 refine⟨h1,h2.kept hg (fun e=>?_) (fun e=>?_),h3⟩
 ·obtain⟨_,o,ho,_,hw⟩:=hr sb e.symm
  obtain⟨es,c,_,_,_,hb,_⟩:=h2
  rw[hb]at ho;cases ho;cases hw
 ·obtain⟨_,o,ho,_,hw⟩:=hr i.1 e.symm
  obtain⟨es,c,since,seen,c0,_,_,_,_,hb,_⟩:=h2
  rw[hb]at ho;cases ho;cases hw
theorem keyR_others {sb:Nat} {l:List SE} {B:Nat} {i:Nat×(Lit→Bool)×Nat} {ks:List Int} {A A':World} (h:KeyR sb l B i ks A) (hk:KeepsOthers A A'):KeyR sb l B i ks A':=
 ⟨h.1,h.2.1.of_walks ⟨hk.size,fun k o ho hw=>hk.same k o ho (by cases o<;>first | rfl | cases hw)⟩,h.2.2⟩
theorem Tryz.infoU64:(Tryz.prog.info? 43).map (fun i=>(i.zero,i.size,i.bytes))=some (some (.int .u64 0),1,8):=by kernel_rfl
theorem nodup_len:∀(l m:List Int),l.Nodup→(∀x,x∈l→x∈m)→l.length≤m.length
 | [],_,_,_=>Nat.zero_le _
 | x :: r,m,h,hs=>by
  have h1:=List.nodup_cons.1 h
  have hx:=hs x (by simp)
  have:=nodup_len r (m.erase x) h1.2 (fun y hy=>(List.mem_erase_of_ne (fun e:y=x=>h1.1 (by rw[←e];exact hy))).2 (hs y (by simp[hy])))
  rw[List.length_erase_of_mem hx]at this
  have hp:=List.length_pos_of_mem hx
  rw[List.length_cons]
  omega
theorem keyR_len {sb:Nat} {l:List SE} {B:Nat} {i:Nat×(Lit→Bool)×Nat} {ks:List Int} {A:World} (h:KeyR sb l B i ks A):ks.length≤l.length:=by
 have:=nodup_len ks (keysE l) h.2.2.1 (fun x hx=>by
  have:=((h.2.2.2 x).1 hx).1
  rw[has_list]at this
  obtain⟨e,he⟩:=Option.isSome_iff_exists.1 this
  obtain⟨h1,h2⟩:=findS_some he
  exact List.mem_map.2 ⟨e,h1,h2⟩)
 rwa [show(keysE l).length=l.length from List.length_map _]at this
def CollI (w0:World) (N M gb:Nat) (ks:List Int) (W:World):Prop:=(∃v,Boxed W gb 86 v∧W.ownsRow N 43 1 v ks.length (ks.map (Value.int .u64))∧True)∧Below M w0 W
theorem collI_own (w0:World) (N M gb B:Nat) (hN:M≤w0.heap.size) (hB:M≤B):OwnFrom B (CollI w0 N M gb):=
 OwnFrom.and (Own.from (holdsRow_own N gb 86 43 1 (fun s:List Int=>s.length) (fun s=>s.map (Value.int .u64)) (fun _ _=>True)) _) (ownFrom_below hN hB)
set_option maxRecDepth 100000 in
set_option maxHeartbeats 3200000 in
theorem appendseq_ok (sb:Nat) (l:List SE) (bx:Nat) (w:World) (hS:SM w sb l) (hB:Blk w bx 78 #[.map (some sb)]) (hr:Rising l) (hl:l.length≤100000) :
  Calls Tryz.prog 92 #[.slice none 0 0,.func (.func 72) #[] #[.pointer (some ⟨bx,0,none⟩)]] w fun e w'=>∃(ks:List Int) (v:Value),e=.returned v∧ks.Perm (keysE l)∧w'.ownsRow w.heap.size 43 1 v ks.length (ks.map (Value.int .u64))∧Below w.heap.size w w':=by
 have HS:=zh hS
 have HB:=zh hB
 have HSQ:=zh (fun B=>keys_seq sb l hr bx B 8 (by decide))
 have HLL:=zh hl
 obtain⟨i0,hi0,hz0,hz1,hz2⟩:=info_parts Tryz.infoU64
 clear hS hB hr hl
 refine(callsIn_wide (n:=9)).1 ?_
 refine callsIn_of_wp_marks Tryz.func92 rfl trivial ?_ rfl
 simp only[Tryz.ntmps92,List.size_toArray,List.length_cons,List.length_nil,Nat.reduceAdd,Nat.reduceSub,Array.replicate_succ,Array.replicate_zero,List.push_toArray,List.append_toArray,List.nil_append,List.cons_append]
 gi_wp2
 obtain⟨gb,hgb⟩:∃gb,gb=w.heap.size:=⟨_,rfl⟩
 obtain⟨W1,hW1⟩:∃W1,W1=w.alloc (.cells #[.slice none 0 0] 86):=⟨_,rfl⟩
 have hz1':W1.heap.size=gb+1:=by rw[hW1,hgb];simp
 have HBX:Hid (Boxed W1 gb 86 (.slice none 0 0)):=zh (by rw[hW1,hgb];exact Boxed.new w 86 (.slice none 0 0))
 have HB1:Hid (Below w.heap.size w W1):=zh (by rw[hW1];exact(Below.refl _ w).alloc (Nat.le_refl _) _)
 have HK1:Hid (KeyR0 sb l bx W1):=zh ⟨HS.out.below HB1.out HS.out.lt,HB.out.below HB1.out HB.out.lt⟩
 have HGB:=zh hgb
 rw[←hW1,←hgb]
 clear hW1 hgb
 refine wpIn_rangeFunc_work rfl (by decide) (gf:=72) (lb:=#[.pointer (some ⟨bx,0,none⟩)]) rfl trivial (enters_of Tryz.func72 (by kernel_rfl) rfl)
  (HSQ.out (gb+1)) (fun _=>rfl) (fun A A' k o ⟨row,hg,hr⟩ hk ho _ hw=>(hg.block k (Array.getElem?_eq_some_iff.1 ho).1 (fun e=>by
   obtain⟨_,o',ho',hw'⟩:=hr k e.symm
   rw[ho]at ho';cases ho';rw[hw]at hw';cases hw')).trans ho)
  (CollI W1 (gb+1) gb gb) (fun s A A' row hs hg hr=>collI_own W1 (gb+1) gb gb _ (by omega) (by omega) s A A' row hs hg (fun r e=>⟨(hr r e).1,let ⟨o,h1,h2,_⟩:=(hr r e).2;⟨o,h1,h2⟩⟩))
  (fun pre A A' h ⟨row,hg,hr⟩=>collI_own W1 (gb+1) gb gb (gb+1) (by omega) (by omega) pre A A' row h hg (fun r e=>⟨(hr r e).1,let ⟨o,h1,h2⟩:=(hr r e).2;⟨o,h1,Obj.not_cells_of_walk h2⟩⟩))
  (fun i=>keyR_loop sb l (gb+1) i _) ⟨⟨_,HBX.out,World.ownsRow_nil _ _ _ _,trivial⟩,Below.refl _ _⟩
  (fun s A A' row ⟨⟨h1,h2⟩,h3⟩ hg hr=>⟨⟨?r1,?r2⟩,Nat.le_trans h3 hg.size⟩) ⟨HK1.out,by omega⟩ ?a1 ?assign ?body ?done
 case r1=>exact h1.keepF (F:=fun k=>row=some k) ⟨hg.os,hg.tape,hg.output,hg.size,fun k hk hn=>hg.block k hk (fun e=>hn e.symm)⟩ (fun e=>by
  obtain⟨_,o,ho,_,hw⟩:=hr sb e
  obtain⟨es,c,hb,_⟩:=h1
  rw[hb]at ho;cases ho;cases hw)
 case r2=>exact(hg.block bx h2.lt (fun e=>by
  obtain⟨_,o,ho,hc,_⟩:=hr bx e.symm
  rw[show A.heap[bx]? = _ from h2]at ho;cases ho;cases hc)).trans h2
 case assign=>
  intro lp x W K hK
  gi_wp2
  exact hK
 case body=>
  rintro lp i pre x W ⟨⟨v,hbx,hown,_⟩,hBW⟩ hKR
  have hc:=hbx.cell
  have hbs:=hBW.size
  have hpl:=keyR_len hKR
  rw[List.length_append]at hpl
  have hll:=HLL.out
  have HKR:=zh hKR
  have hpl2:pre.length < 100000:=by simp at hpl;omega
  clear hKR hpl hll
  gi_wp2_with (gi_at_builtin;refine wpListIn_append_own _ rfl _ _ 86 rfl (gb+1) 43 i0 (.int .u64 0) 1 8 Tryz.underlying86 hi0 hz0 hz1 hz2 rfl (by decide) _ _ _ rfl (hown.alloc _) ⟨W.heap.size,0,none⟩ 1 1 [.int .u64 x] rfl rfl (cell_one_new _ _ _) (by simp[Value.oneCell']) (by unfold maxLen;omega) (by omega) (by simp;omega) ?_;intro v' w1 hown' hgrow _;obtain⟨g',cap',rfl⟩:=ownsRow_succ hown';obtain⟨hv1,hv2,hr2,hk2,hb2⟩:=hbx.appended (by decide) (ownsRow_mono hown (by omega)) (by omega:gb≤W.heap.size) (Nat.le_refl _) (ownsRow_mono hown' (by omega)) hgrow;have hc1:=hv1.cell;have hf1:=hv1.frozen)
  have hown2:(w1.setCell ⟨gb,0,none⟩ (.slice (some ⟨g',0,none⟩) (pre.length+1) cap')).ownsRow (gb+1) 43 1 (.slice (some ⟨g',0,none⟩) (pre.length+1) cap') (pre.length+1) (pre.map (Value.int .u64)++[.int .u64 x]):=
   hown'.kept (grownBy_setCell' w1 gb _) (.inr (hv1.not_row (by decide) hown').symm)
  exact⟨hk2.from _,⟨⟨_,hv2,by simpa using hown2,trivial⟩,hBW.trans hb2⟩,keyR_others HKR.out hk2⟩
 case done=>
  rintro D i xs W hD hperm hI hKR hK
  obtain⟨⟨v2,hbx2,hown2,_⟩,hBW2⟩:=(collI_own W1 (gb+1) gb gb W1.heap.size (by omega) (by omega)).putObj (.deferred none) hI hD hK rfl
  obtain⟨⟨v,hbx,hown,_⟩,hBW⟩:=hI
  have hne:gb ≠ D:=by omega
  have hvv:v2=v:=by
   have h1:W.heap[gb]? = some (.cells #[v2] 86 (0,0)):=(World.putObj_heap_other hne).symm.trans hbx2
   rw[show W.heap[gb]? = _ from hbx]at h1
   injection h1 with h1
   injection h1 with h1
   simpa using h1.symm
  subst hvv
  have HOW2:=zh hown2
  have HBW2:=zh hBW2
  clear hown2 hBW2 hbx2
  have hc:=hbx.cell
  have HPM:=zh hperm
  have HOW:=zh hown
  have HBW:=zh hBW
  have HDK:=zh hK
  clear hperm hown hBW hKR hK
  gi_wp2
  refine⟨by simp,.inl ⟨_,_,rfl,run_takeDeferred HDK.out,?_⟩⟩
  refine⟨v2,by simp[results,Tryz.results92,go_sem],xs,v2,rfl,HPM.out,ownsRow_mono HOW2.out (by have:=HGB.out;omega),HB1.out.trans (HBW2.out.mono (by have:=HGB.out;omega))⟩
end Go.Proofs.YtnadmdadcpemnaaGreat

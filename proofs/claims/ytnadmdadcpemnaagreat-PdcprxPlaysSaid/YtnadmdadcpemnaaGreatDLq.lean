import Derived.Test.YtnadmdadcpemnaaGreatMIIq
import Derived.Test.YtnadmdadcpemnaaGreatRLq
import Derived.OwnWalkIn
set_option maxRecDepth 100000
set_option maxHeartbeats 6400000
namespace Go.Proofs.YtnadmdadcpemnaaGreat
set_option linter.unusedVariables false
set_option linter.unusedSimpArgs false
open Go.RowKit
attribute [local go_sem] Oper.semAt_some
private theorem tkL {P:Program} {ops:Array Oper} {Q:Exit->Act->World->Prop} {md:Region.Mode} {S:World->Prop} {L i:Nat} {oi:Oper} {v:Value} {fuel:Nat} {listed l':Array Bool} {a a':Act} {w:World} (hi:ops[i]? = some oi) (hy:YieldsIf P ops S oi v a) (hS:S w)
  (h:wpAnyL P md ops Q S L fuel l' a' w) (hl:listed.setIfInBounds i true=l':=by(try simp only[qa,qb,qc]);rfl) (ha:a.put oi.dst v=a':=by(try simp only[Act.put,qa,qb,qc]);rfl) (hL:waitsFor md ops L i=true:=by kernel_rfl) (hs:Region.noSelect ops=true:=by kernel_rfl) (hf:Region.free md ops listed i=true:=by kernel_rfl) (hr:(Region.ready md ops listed).contains i=true:=by kernel_rfl)
  (hQ:∀c a w,Q (.panic c) (a.put oi.dst v) w->Q (.panic c) a w:=by exact fun _ _ _ h=>h):wpAnyL P md ops Q S L (fuel+1) listed a w:=by subst hl;subst ha;exact wpAnyL_take hi hL hs hf hr hQ hy hS h
theorem RxM.delHead {w:World} {g:Nat} {s:RS} {W R:Nat->Prop} {sb:Nat} {e:SE} {r:List SE} {ub eb:Nat} (h:RxM w g s W R sb (e :: r) ub eb) :
  ∃w',(∀ty,(Builtin.delete_ #[78,43] ty #[.map (some sb),.int .u64 e.v.ct]).run Tryz.prog w=.ok (.tuple #[]) w')/\RxM w' g { s with L:=r.map (·.v) } W R sb r ub eb/\KeepF (fun k=>k=sb) w w':=by
 have h0:=h.ok.deliver;have h1:=h.ok.next;have h2:=h.rng e (by simp);obtain⟨w',hrun,hm,hk⟩:=smap_del h.st (f:=e.v.ct) (by omega) (by omega) 0;rw[delS_head h.ris]at hm;have hr:(∀x,x∈r->e.v.ct < x.v.ct)/\Rising r:=List.pairwise_cons.1 h.ris
 exact⟨w',fun ty=>hrun,h.setMap hk hm hr.2 rfl (fun x hx=>h.rng x (by simp[hx])) (fun x hx=>h.pk x (by simp[hx])),hk⟩
def lowE (k:Int) (l:List SE):List SE:=l.filter fun e=>decide (e.v.ct < k)
def highE (k:Int) (l:List SE):List SE:=l.filter fun e=>!decide (e.v.ct < k)
theorem low_high (k:Int):∀{l:List SE},Rising l->l=lowE k l++highE k l
 | [],_=>rfl
 | e :: r,h=>by
  have h1:(∀x,x∈r->e.v.ct < x.v.ct)/\Rising r:=List.pairwise_cons.1 h;unfold lowE highE;rw[List.filter_cons,List.filter_cons];by_cases hk:e.v.ct < k
  ·simp only[hk,decide_true,if_true,Bool.not_true,Bool.false_eq_true,if_false,List.cons_append];congr 1
   exact low_high k h1.2
  ·have hl:r.filter (fun e=>decide (e.v.ct < k))=[]:=List.filter_eq_nil_iff.2 fun x hx=>by have:=h1.1 x hx;simp;omega
   have hh:r.filter (fun e=>!decide (e.v.ct < k))=r:=List.filter_eq_self.2 fun x hx=>by have:=h1.1 x hx;simp;omega
   simp only[hk,decide_false,Bool.false_eq_true,if_false,Bool.not_false,if_true];rw[hl,hh]
   rfl
theorem low_map (k:Int) (l:List SE):(lowE k l).map (·.v)=lowL k (l.map (·.v)):=by
 unfold lowE lowL;rw[List.filter_map]
 rfl
theorem high_map (k:Int) (l:List SE):(highE k l).map (·.v)=highL k (l.map (·.v)):=by
 unfold highE highL;rw[List.filter_map]
 rfl
def OutM (w:World) (B:Nat) (A:Option Addr) (c:Nat) (lo:List SE):Prop:=SL w 35 1 A lo.length c (lo.map SE.val)/\∀a,A=some a->B<=a.block
def ExpO (s:RS) (W R:Nat->Prop) (g sb:Nat) (l:List SE) (ub eb:Nat) (w:World) (e:Ending) (w':World):Prop:=
 ∃A c lo l',e=.returned (.slice A lo.length c)/\OutM w' w.heap.size A c lo/\lo.map (·.v)=s.expire.1/\(∀x,x∈lo->x∈l)/\(∀x,x∈l'->x∈l)/\RxM w' g s.expire.2 W R sb l' ub eb/\KeepF W w w'
theorem wpListIn_sl_append {F:Fence} {nn:Nat} {P:Program} {ops:Array Oper} {rest:List Oper} {o:Oper} {a:Act} {Q:Exit->Act->World->Prop} (hgd:o.guard=none) (s x:Operand) (t tx:TypeId) (ho:o.op=.call { callee:=.builtin .append,args:=#[s,x],argTypes:=#[t,tx] })
  (w:World) (e:TypeId) (i:TypeInfo) (z:Value) (sz bytes:Nat) (ht:P.underlying t=some (.slice e)) (hi:P.info? e=some i) (hz:i.zero=some z) (hsize:i.size=sz) (hby:i.bytes=bytes) (hzs:z.cells.size=sz)
  (A:Option Addr) (n c:Nat) (xs:List Value) (hsv:a.eval s=.slice A n c) (h:SL w e sz A n c xs) (xv:Value) (hxv:a.eval x=xv) (m:Nat) (news:List Value) (hs:Src P sz tx xv m news w) (hm:0 < m) (h63:n+m<=maxLen) (hbytes:(n+m)*bytes<=140737488355328)
  (hK:∀A' c' w',SL w' e sz A' (n+m) c' (xs++news)->KeepF (fun k=>∃a,A=some a/\k=a.block) w w'->(∀a,A'=some a->(∃a',A=some a'/\a.block=a'.block)\/w.heap.size<=a.block)->wpListIn F nn P ops Q rest (a.put o.dst (.slice A' (n+m) c')) w'):wpListIn F nn P ops Q (o :: rest) a w:=by
 refine wpListIn_plain hgd fun K' hK'=>?_;obtain⟨A',c',w',hrun,h1,h2,h3⟩:=sl_append w t tx o.type e i z sz bytes ht hi hz hsize hby hzs h xv m news hs hm h63 hbytes;unfold Oper.wpIn;refine⟨?_,?_⟩
 ·simp[Oper.about,ho,resolve,Target.leads,Sem.run_pure]
 ·rw[Oper.semAt_plain F _ _ (by rw[ho];intro c hc';cases hc')];simp[execOp,ho,resolve,invoke,builtin,hsv,hxv,hrun,Result.andThen]
  exact hK' _ _ (hK A' c' w' h1 h2 h3)
theorem src_new (w:World) (v:Value) (hv:v.oneCell'=true):Src Tryz.prog 1 34 (.slice (some ⟨w.heap.size,0,none⟩) 1 1) 1 [v] (w.alloc (.cells #[v] 35)):=
 Src.ofSlice _ Tryz.underlying34 ⟨w.heap.size,0,none⟩ 1 1 [v] (by rfl) (fun j u hu=>by
  cases j with
  | zero=>rw[Addr.add_lit];simp at hu;subst hu;exact(Blk.new w 35 #[v]).cell 0
  | succ j=>simp at hu) (by intro u hu;simp at hu;subst hu;exact hv)
theorem build_sl (A:Option Addr) (n c:Nat) (w:World):(Instr.buildSlice 34 1 #[(0,.slice A n c)]).run Tryz.prog w=.ok (.slice (some ⟨w.heap.size,0,none⟩) 1 1) (w.alloc (.cells #[.slice A n c] 35)):=by kernel_rfl
theorem wp_build_sl {o:Oper} {a:Act} {K:Act->World->Prop} {Q:Exit->Act->World->Prop} (x:Operand) (ho:o.op=.buildSlice 34 1 #[(0,x)]) (w:World) (v:Value) (A:Option Addr) (n c:Nat) (hx:a.eval x=v) (hv:v=.slice A n c)
  (h:K (a.put o.dst (.slice (some ⟨w.heap.size,0,none⟩) 1 1)) (w.alloc (.cells #[v] 35))):o.wp Tryz.prog a w K Q:=by
 subst hv;unfold Oper.wp execOp;simp only[ho,Sem.run_bind,List.map_toArray,List.map_cons,List.map_nil,hx,build_sl,Result.andThen_ok]
 exact h
theorem wp_region_Ln {P:Program} {ops:Array Oper} {Q:Exit->Act->World->Prop} {S:World->Prop} {L:Nat} {id:Nat} {a:Act} {w:World} (hm:P.follows .mixedOrders=true) (hS:S w.drew)
  (h:S w.drew->wpAnyL P .any ops (fun x a w=>match x with | .panic _=>False | y=>Q y a w) S L ops.size (Array.replicate ops.size false) a w.drew):(Code.region id ops true).wp P Q a w:=
 Code.wp_mono (fun e a w h=>by cases e<;>first | exact h.elim | exact h) (wp_region_L hm hS h)
theorem wpList_delete_run {P:Program} {ops:Array Oper} {rest:List Oper} {o:Oper} {a:Act} {w w':World} {Q:Exit->Act->World->Prop} (hgd:o.guard=none) {t k:TypeId} {vx vy r:Value} (x y:Operand) (ho:o.op=.call { callee:=.builtin .delete,args:=#[x,y],argTypes:=#[t,k] })
  (hx:a.eval x=vx) (hy:a.eval y=vy) (hrun:∀ty,(Builtin.delete_ #[t,k] ty #[vx,vy]).run P w=.ok r w') (hK:wpList P ops Q rest (a.put o.dst r) w'):wpList P ops Q (o :: rest) a w:=
 wpList_plain hgd fun K hK'=>wp_delete_run x y ho hx hy hrun (hK' _ _ hK)
theorem Tryz.infoSl:(Tryz.prog.info? 35).map (fun i=>(i.zero,i.size,i.bytes))=some (some (.slice none 0 0),1,24):=by kernel_rfl
theorem rexpire_idle (g:Nat) (s:RS) (W R:Nat->Prop) (sb:Nat) (l:List SE) (ub eb:Nat) (w:World) (h:RxM w g s W R sb l ub eb) (hi:s.run=false\/s.now < s.expiry) :
  Calls Tryz.prog 31 #[.pointer (some ⟨g,0,none⟩)] w (ExpO s W R g sb l ub eb w):=by
 have HX:=zh (show s.expire=([],s) by unfold RS.expire;rw[if_pos hi]);obtain⟨ob,hob⟩:∃ob,ob=w.heap.size:=⟨_,rfl⟩
 obtain⟨W1,hW1⟩:∃W1,W1=w.alloc (.cells #[.slice none 0 0] 34):=⟨_,rfl⟩
 have hB1:Below w.heap.size w W1:=by rw[hW1];exact(Below.refl _ w).alloc (Nat.le_refl _) _
 have hO:Blk W1 ob 34 #[.slice none 0 0]:=by rw[hW1,hob];exact Blk.new _ _ _
 have hT:=h.below hB1;have c1:=hT.crun;have c2:=hT.cnow;have c3:=hT.cexpiry;have c4:W1.cell? ⟨ob,0,none⟩=some (.slice none 0 0):=hO.cell 0;have f4:=hO.frozen 0;have HB1:=zh hB1;have HT:=zh hT;have HO:=zh hO;have HWW:=zh hW1;have HOB:=zh hob;have HEND:=zh (show ∀V,KeepF (fun k=>k=ob) W1 V->RxM V g s W R sb l ub eb/\KeepF W w V from fun V hV=>⟨hT.keepF hV (fun k e=>by
  subst e
  exact⟨fun hw=>by have:=h.win _ hw;omega,fun hr=>by have:=h.rin _ hr;omega⟩),(KeepF.of_below hB1).trans hV (fun k hk e=>by omega)⟩)
 clear h hB1 hO hT hW1 hob
 cases hrn:s.run
 ·rw[hrn]at c1;clear hrn hi;go_enter Tryz.func31,Tryz.ntmps31;go_upto_region 1 with (fail)
  rw[<-HWW.out,<-HOB.out];go_region;go_wp2;refine bodyPost_ret (v:=.slice none 0 0) (by simp[results,Tryz.results31,go_sem,c4]) rfl ?_;rw[ExpO,HX.out]
  exact⟨none,0,[],l,rfl,⟨SL.nil _ _ _,fun a h=>by cases h⟩,rfl,fun x hx=>by simp at hx,fun x hx=>hx,(HEND.out _ (keep_set W1 ob 0 _).drew).1,(HEND.out _ (keep_set W1 ob 0 _).drew).2⟩
 ·rw[hrn]at c1;have t1:s.now < s.expiry:=by rcases hi with h | h;rw[hrn]at h;cases h;exact h
  clear hrn hi;go_enter Tryz.func31,Tryz.ntmps31;go_upto_region 1 with (fail)
  rw[<-HWW.out,<-HOB.out];go_region;go_wp2;refine bodyPost_ret (v:=.slice none 0 0) (by simp[results,Tryz.results31,go_sem,c4]) rfl ?_;rw[ExpO,HX.out]
  exact⟨none,0,[],l,rfl,⟨SL.nil _ _ _,fun a h=>by cases h⟩,rfl,fun x hx=>by simp at hx,fun x hx=>hx,(HEND.out _ (keep_set W1 ob 0 _).drew).1,(HEND.out _ (keep_set W1 ob 0 _).drew).2⟩
theorem drop_low {k:Int} {l:List SE} (hr:Rising l) {j:Nat} (hj:j < l.length):(keysE l).getD j 0 < k↔j < (lowE k l).length:=by
 have e:=low_high k hr;have e1:(keysE l).getD j 0=(l[j]'hj).v.ct:=by unfold keysE;simp[List.getD,hj]
 rw[e1];by_cases h:j < (lowE k l).length
 ·have:l[j]'hj=(lowE k l)[j]:=by
   have h2:l[j]? = (lowE k l++highE k l)[j]?:=by rw[<-e]
   rw[List.getElem?_append_left h,List.getElem?_eq_getElem hj,List.getElem?_eq_getElem h]at h2;simpa using h2
  rw[this];have hm:(lowE k l)[j]∈lowE k l:=List.getElem_mem h;have:=(List.mem_filter.1 hm).2;simp only[decide_eq_true_eq]at this
  exact⟨fun _=>h,fun _=>this⟩
 ·have hj2:j-(lowE k l).length < (highE k l).length:=by
   have:=congrArg List.length e;rw[List.length_append]at this;omega
  have:l[j]'hj=(highE k l)[j-(lowE k l).length]:=by
   have h2:l[j]? = (lowE k l++highE k l)[j]?:=by rw[<-e]
   rw[List.getElem?_append_right (by omega),List.getElem?_eq_getElem hj,List.getElem?_eq_getElem hj2]at h2;simpa using h2
  rw[this];have hm:(highE k l)[j-(lowE k l).length]∈highE k l:=List.getElem_mem hj2;have:=(List.mem_filter.1 hm).2;simp only[Bool.not_eq_true',decide_eq_false_iff_not]at this
  exact⟨fun h3=>absurd h3 this,fun h3=>absurd h3 h⟩
def ExpL (g:Nat) (s1:RS) (W R:Nat->Prop) (sb:Nat) (l:List SE) (ub eb ob m:Nat) (V3:World) (k:Nat) (wr:World):Prop:=
 ∃A c,Blk wr ob 34 #[.slice A (min k m) c]/\SL wr 35 1 A (min k m) c ((l.take (min k m)).map SE.val)/\(∀a,A=some a->V3.heap.size<=a.block)/\RxM wr g { s1 with L:=(l.drop (min k m)).map (·.v) } W R sb (l.drop (min k m)) ub eb/\KeepF (fun k=>k=sb\/k=ob) V3 wr
theorem from_made (g:Nat) (w:World):Calls Tryz.prog 34 #[.pointer (some ⟨g,0,none⟩)] w fun e w'=>e=.returned (.func (.func 66) #[] #[.pointer (some ⟨w.heap.size,0,none⟩)])/\w.alloc (.cells #[.pointer (some ⟨g,0,none⟩)] 30)=w':=by
 go_enter Tryz.func34,Tryz.ntmps34;go_wp2;go_ret
 exact⟨rfl,rfl⟩
theorem take_low {k:Int} {l:List SE} (hr:Rising l) {m:Nat} (hm:m=(lowE k l).length):l.take m=lowE k l/\l.drop m=highE k l:=by
 have e:=low_high k hr;subst hm
 exact⟨(congrArg _ e).trans List.take_left,(congrArg _ e).trans List.drop_left⟩
theorem KeepF.of_putObj (W:World) (D:Nat) (o:Obj):KeepF (fun k=>k=D) W (W.putObj D o):=KeepF.of_row (grownBy_putObj' W D o) rfl
theorem KeepF.from2 {F:Nat->Prop} {A C:World} (h:KeepF F A C) (B:Nat) (hc:∀k o,F k->A.heap[k]? = some o->o.isCells=true):KeepsFrom B A C:=
 ⟨h.size,fun k o _ hk ho=>h.same hk (fun hf=>by rw[hc k o hf hk]at ho;cases ho)⟩
def OutI (w V3:World) (W:Nat->Prop) (ob bx:Nat) (lo pre:List SE) (V:World):Prop:=
 ∃A c,Blk V ob 34 #[.slice A (lo++pre).length c]/\SL V 35 1 A (lo++pre).length c ((lo++pre).map SE.val)/\(∀a,A=some a->V3.heap.size<=a.block/\a.block ≠ bx)/\KeepF W w V
theorem outI_loop (w V3:World) (W:Nat->Prop) (ob bx:Nat) (lo:List SE) (B:Nat) (h1:w.heap.size<=B):LoopFrom B (OutI w V3 W ob bx lo):=fun pre V V' row ⟨A,c,hO,hS,hA,hK⟩ hg hr=>by
 have hkf:KeepF (fun k=>row=some k) V V':=⟨hg.os,hg.tape,hg.output,hg.size,fun k hk hn=>hg.block k hk (fun e=>hn e.symm)⟩
 refine⟨A,c,hkf.blk hO (fun e=>?_),hS.keepF hkf (fun a ha e=>?_),hA,hK.trans hkf (fun k hk e=>?_)⟩
 ·obtain⟨_,o,ho,hc,_⟩:=hr _ e;rw[show V.heap[ob]? = _ from hO]at ho;cases ho;cases hc
 ·obtain⟨_,o,ho,hc,_⟩:=hr _ e;obtain⟨cur,hcur⟩:=hS.obj ha;rw[hcur]at ho;cases ho;cases hc
 ·have:=(hr _ e).1;omega
theorem outI_keep {w V3:World} {W:Nat->Prop} {ob bx:Nat} {lo pre:List SE} {V V':World} {F:Nat->Prop} (h:OutI w V3 W ob bx lo pre V) (hk:KeepF F V V') (h1:∀k,F k->k < V3.heap.size/\k ≠ ob/\W k):OutI w V3 W ob bx lo pre V':=by
 obtain⟨A,c,hO,hS,hA,hK⟩:=h
 exact⟨A,c,hk.blk hO (fun e=>(h1 _ e).2.1 rfl),hS.keepF hk (fun a ha e=>by have:=(hA a ha).1;have:=(h1 _ e).1;omega),hA,hK.trans hk (fun k _ e=>(h1 k e).2.2)⟩
theorem fromR_keep {g:Nat} {s:RS} {Ws R:Nat->Prop} {sb:Nat} {l0:List SE} {ub eb bx:Nat} {pre:List SE} {V V':World} {F:Nat->Prop} (h:FromR g s Ws R sb l0 ub eb bx pre V) (hk:KeepF F V V') (h1:∀k,F k->¬Ws k/\¬R k) (h2:¬F bx):FromR g s Ws R sb l0 ub eb bx pre V':=by
 obtain⟨rest,e1,e2,e3,e4⟩:=h
 exact⟨rest,e1,e2,e3.keepF hk h1,hk.blk e4 h2⟩
theorem fromR_loop (g:Nat) (s:RS) (Ws R:Nat->Prop) (sb:Nat) (l0:List SE) (ub eb bx B:Nat) (hB:bx < B) (hW:∀k,Ws k->k < B) (hR:∀k,R k->k < B):LoopFrom B (FromR g s Ws R sb l0 ub eb bx):=fun pre V V' row h hg hr=>
 fromR_keep h (F:=fun k=>row=some k) ⟨hg.os,hg.tape,hg.output,hg.size,fun k hk hn=>hg.block k hk (fun e=>hn e.symm)⟩
  (fun k e=>⟨fun hw=>by have:=hW _ hw;have:=(hr _ e).1;omega,fun hw=>by have:=hR _ hw;have:=(hr _ e).1;omega⟩) (fun e=>by have:=(hr _ e).1;omega)
theorem fromR_end {g:Nat} {s:RS} {Ws R:Nat->Prop} {sb:Nat} {l0:List SE} {ub eb bx:Nat} {xs:List SE} {V:World} (h:FromR g s Ws R sb l0 ub eb bx xs V) (hx:xs=(fromE l0 s.deliver).1) (hl:l0.map (·.v)=s.L) :
  ∃rest,l0=xs++rest/\xs.map (·.v)=s.deliver_.1/\RxM V g s.deliver_.2 Ws R sb rest ub eb:=by
 obtain⟨rest,e1,e2,e3,e4⟩:=h;have h1:=fromE_app l0 s.deliver;have h2:=fromE_map l0 s.deliver;have h3:=fromL_end (l0.map (·.v)) s.deliver;rw[<-hx]at h1 h2;have h4:rest=(fromE l0 s.deliver).2:=List.append_cancel_left (e1.symm.trans h1.symm);refine⟨rest,e1,by unfold RS.deliver_;rw[h2.1,hl],?_⟩;have h5:(s.deliver_).2={ s with L:=rest.map (·.v),deliver:=s.deliver+xs.length }:=by
  unfold RS.deliver_;rw[h4,h2.2,hl];have:(fromL s.L s.deliver).2.2=s.deliver+xs.length:=by
   rw[hl]at h3 h2;rw[h3,<-h2.1,List.length_map]
  simp only[this]
 rw[h5]
 exact e3
theorem rexpire_go (g:Nat) (s:RS) (W R:Nat->Prop) (sb:Nat) (l:List SE) (ub eb:Nat) (w:World) (h:RxM w g s W R sb l ub eb) (hro:0<=s.C.ro/\s.C.ro<=1073741824) (hrun:s.run=true) (hexp:s.expiry<=s.now) (hl:l.length<=250) :
  Calls Tryz.prog 31 #[.pointer (some ⟨g,0,none⟩)] w (ExpO s W R g sb l ub eb w):=by
 have HX:=zh (show s.expire=(lowL s.limit s.L++s.cut.deliver_.1,s.cut.deliver_.2.timer) by unfold RS.expire;rw[if_neg (by rw[hrun];rintro (h | h);cases h;omega)]);have HRI:=zh h.ris;have HLL:=zh hl;have HLV:=zh h.lv;have HRO:=zh hro;obtain⟨ob,hob⟩:∃ob,ob=w.heap.size:=⟨_,rfl⟩
 obtain⟨W1,hW1⟩:∃W1,W1=w.alloc (.cells #[.slice none 0 0] 34):=⟨_,rfl⟩
 have hB1:Below w.heap.size w W1:=by rw[hW1];exact(Below.refl _ w).alloc (Nat.le_refl _) _
 have hO:Blk W1 ob 34 #[.slice none 0 0]:=by rw[hW1,hob];exact Blk.new _ _ _
 have hT:=h.below hB1;have c1:=hT.crun;have c2:=hT.cnow;have c3:=hT.cexpiry;have f1:=hT.fr 44;rw[hrun]at c1;have t1:¬s.now < s.expiry:=by omega
 have HWW:=zh hW1;have HOB:=zh hob;have HW:=zh (And.intro h.win h.rin);have HWG:=zh (And.intro h.wg h.ws);have HDIS:=zh h.dis;have hT1:=hT.setRun false;have hK1:=keep_set W1 g 44 (.bool false);have hgo:ob ≠ g:=by rw[hob];have:=h.blk.lt;omega
 have hso:ob ≠ sb:=by rw[hob];have:=h.st.lt;omega
 have HGO:=zh (And.intro hgo hso);have hO1:Blk (W1.setCell ⟨g,44,none⟩ (.bool false)) ob 34 #[.slice none 0 0]:=hK1.blk hO hgo;have hKW:KeepF W w (W1.setCell ⟨g,44,none⟩ (.bool false)):=(KeepF.of_below hB1).trans hK1 (fun k _ e=>by rw[e];exact h.wg);obtain⟨s1,hs1⟩:∃x,x={ s with run:=false }:=⟨_,rfl⟩
 rw[<-hs1]at hT1;have HS1:=zh hs1;have HF:=zh (And.intro hT1 (And.intro hO1 hKW));clear h hB1 hO hT hW1 hob hT1 hK1 hgo hso hO1 hKW hs1 hrun hexp hl hro;refine(callsIn_wide (n:=9)).1 ?_;refine callsIn_of_wp_marks Tryz.func31 rfl trivial ?_ rfl;simp only[Tryz.ntmps31,List.size_toArray,List.length_cons,List.length_nil,Nat.reduceAdd,Nat.reduceSub,Array.replicate_succ,Array.replicate_zero,List.push_toArray,List.append_toArray,List.nil_append,List.cons_append];refine wpIn_wide.2 ?_;go_upto_region 1 with (fail)
 rw[<-HWW.out,<-HOB.out];go_region;go_upto_region 4 with (fail)
 refine wp_let (fun V=>RxM V g s1 W R sb l ub eb/\Blk V ob 34 #[.slice none 0 0]/\KeepF W w V) ⟨HF.out.1.drew_,HF.out.2.1.drew,HF.out.2.2.drew⟩ ?_;rintro V ⟨hT,hO,hK⟩;obtain⟨V2,hV2⟩:∃V2,V2=V.alloc (.cells #[.map (some sb)] 78):=⟨_,rfl⟩
 have hB2:Below V.heap.size V V2:=by rw[hV2];exact(Below.refl _ V).alloc (Nat.le_refl _) _
 have hBX:Blk V2 V.heap.size 78 #[.map (some sb)]:=by rw[hV2];exact Blk.new _ _ _
 have HSO:=zh (usorted_ok sb l V.heap.size V2 (hT.st.below hB2 hT.st.lt) hBX HRI.out HLL.out);have HKM:=zh (keys_made sb V);rw[<-hV2]at HKM;have x1:=hT.cs;have HT:=zh hT;have HO:=zh hO;have HK:=zh hK;have HB2:=zh hB2;clear hT hO hK hB2 hBX hV2 c1 c2 c3 f1 t1;go_wp2_with (first
  | (go_at_call 45;refine(HKM.out).mono ?_;rintro e w3 ⟨rfl,rfl⟩)
  | (go_at_call 44;refine(HSO.out).mono ?_;rintro e V3 ⟨KA,kc,rfl,hkr,hkf,hkb⟩;have HKR:=zh hkr;have HKF:=zh hkf;have HKB:=zh hkb;clear hkr hkf hkb))
 have HB3:=zh (HB2.out.trans (HKB.out.mono HB2.out.size));have HT3:=zh (HT.out.below HB3.out);have HO3:=zh (HO.out.below HB3.out HO.out.lt);obtain⟨m,hm⟩:∃m,m=(lowE s.limit l).length:=⟨_,rfl⟩
 have HM:=zh hm;have HSZ:=zh (show ob < V3.heap.size/\w.heap.size<=ob from ⟨HO3.out.lt,Nat.le_of_eq HOB.out.symm⟩);have HV2:=zh (show ob < V2.heap.size/\V2.heap.size<=V3.heap.size from ⟨Nat.lt_of_lt_of_le HO.out.lt HB2.out.size,HKB.out.size⟩);have HSF:=zh (show s1.limit=s.limit/\s1.L=s.L by rw[HS1.out];exact⟨rfl,rfl⟩);clear hm x1;go_loopw [4,32] (fun v4 v32 wr=>∃k:Nat,k<=l.length/\v32=.int .i64 k/\ExpL g s1 W R sb l ub eb ob m V3 k wr) (fun _ v32 _=>l.length-(intOf v32).toNat)
 case atStart=>exact⟨0,by omega,rfl,none,0,by simpa using HO3.out,by simpa using SL.nil _ _ _,fun a h=>(by cases h),by
  have e:=HT3.out.lv;simp only[Nat.zero_min,List.drop_zero];rw[e]
  exact HT3.out,KeepF.refl⟩
 case round=>
  obtain⟨k,hk,rfl,A,c,hO,hS,hA,hT,hKV⟩:=hrel;have HO:=zh hO;have HS:=zh hS;have HA:=zh hA;have HT:=zh hT;have HKV:=zh hKV;clear hO hS hA hT hKV;by_cases hkl:k < l.length;rotate_left
  ·have hke:k=l.length:=by omega
   have hml:m<=l.length:=by rw[HM.out];unfold lowE;exact List.length_filter_le _ _
   have hmin:min k m=m:=by omega
   rw[hmin]at HO HS HT;rw[(take_low HRI.out HM.out).1]at HS;rw[(take_low HRI.out HM.out).2]at HT;obtain⟨dl,hdl⟩:∃d,d=max s.deliver s.limit:=⟨_,rfl⟩
   have hmx:max s.deliver s.limit=dl:=hdl.symm;have hsd:s1.deliver=s.deliver/\s1.next=s.next:=by rw[HS1.out];exact⟨rfl,rfl⟩
   have d1:wr.drew.cell? ⟨g,41,none⟩=some (.int .u64 s.deliver):=by rw[<-hsd.1];exact HT.out.drew_.cdeliver
   have d2:wr.drew.cell? ⟨g,45,none⟩=some (.int .u64 s.limit):=by rw[<-HSF.out.1];exact HT.out.drew_.climit
   have f2:=HT.out.drew_.fr 41;have hcut:({ s1 with L:=(highE s.limit l).map (·.v),deliver:=dl }:RS)=s.cut:=by rw[HS1.out,high_map,HLV.out,hdl];rfl
   have hso:=HT.out.ok;have hdl2:0<=dl/\dl<=s1.next:=by
    have h1:=hso.deliver;have h2:=hso.limit;simp only at h1 h2;rw[hsd.1]at h1;rw[HSF.out.1]at h2;omega
   have hTd:=HT.out.drew_.setDeliver dl hdl2 (fun e he=>by
    have h1:=(HT.out.rng e he).1;simp only at h1;rw[hsd.1]at h1;have h2:=(List.mem_filter.1 he).2;simp only[Bool.not_eq_true',decide_eq_false_iff_not]at h2;omega)
   have hTc:RxM (wr.drew.setCell ⟨g,41,none⟩ (.int .u64 dl)) g s.cut W R sb (highE s.limit l) ub eb:=by rw[<-hcut];exact hTd
   have hKc:=keep_set wr.drew g 41 (.int .u64 dl);have hKW:KeepF W w (wr.drew.setCell ⟨g,41,none⟩ (.int .u64 dl)):=((HK.out.trans (KeepF.of_below (F:=fun _=>False) HB3.out) (fun _ _ h=>h.elim)).trans HKV.out (fun k hk h=>by
    rcases h with rfl | rfl
    ·exact HWG.out.2
    ·have:=HSZ.out.2;omega)).drew.trans hKc (fun k _ e=>by rw[e];exact HWG.out.1)
   have hOc:Blk (wr.drew.setCell ⟨g,41,none⟩ (.int .u64 dl)) ob 34 #[.slice A m c]:=hKc.blk HO.out.drew HGO.out.1;have hgl:=HW.out.1 _ HWG.out.1;have hsz3:=HSZ.out;have hSc:SL (wr.drew.setCell ⟨g,41,none⟩ (.int .u64 dl)) 35 1 A m c ((lowE s.limit l).map SE.val):=(HS.out.next ((Below.refl _ wr).drew)).keepF hKc (fun a ha e=>by have:=HA.out a ha;omega);have HC:=zh (And.intro hTc (And.intro hOc (And.intro hSc (And.intro hKW (Nat.le_trans HKV.out.size hKc.size)))));clear hTd hTc hKc hKW hOc hSc hcut hso hdl2 hdl hsd;go_upto_region 11 with (fail)
   refine wp_region_Ln (L:=12) (S:=fun w'=>w'=wr.drew) (by kernel_rfl) rfl (fun hHeld=>?_);refine tkL (i:=0) (oi:=⟨some 57,_,_,_,_,_⟩) (v:=.pointer (some ⟨g,0,none⟩)) rfl (Or.inl ⟨by rfl,fun W hW=>(by rfl)⟩) (by assumption) ?_;refine tkL (i:=1) (oi:=⟨some 58,_,_,_,_,_⟩) (v:=.pointer (some ⟨g,0,none⟩)) rfl (Or.inl ⟨by rfl,fun W hW=>(by rfl)⟩) (by assumption) ?_;refine tkL (i:=2) (oi:=⟨some 59,_,_,_,_,_⟩) (v:=.pointer (some ⟨g,0,none⟩)) rfl (Or.inl ⟨by rfl,fun W hW=>(by go_simp)⟩) (by assumption) ?_;refine tkL (i:=3) (oi:=⟨some 60,_,_,_,_,_⟩) (v:=.pointer (some ⟨g,41,none⟩)) rfl (Or.inl ⟨by rfl,fun W hW=>(by go_simp)⟩) (by assumption) ?_;refine tkL (i:=4) (oi:=⟨some 61,_,_,_,_,_⟩) (v:=.int .u64 s.deliver) rfl (Or.inl ⟨by rfl,fun W hW=>(by rw[hW];go_simp)⟩) (by assumption) ?_;refine tkL (i:=5) (oi:=⟨some 62,_,_,_,_,_⟩) (v:=.pointer (some ⟨g,0,none⟩)) rfl (Or.inl ⟨by rfl,fun W hW=>(by rfl)⟩) (by assumption) ?_;refine tkL (i:=6) (oi:=⟨some 63,_,_,_,_,_⟩) (v:=.pointer (some ⟨g,0,none⟩)) rfl (Or.inl ⟨by rfl,fun W hW=>(by go_simp)⟩) (by assumption) ?_;refine tkL (i:=7) (oi:=⟨some 64,_,_,_,_,_⟩) (v:=.pointer (some ⟨g,45,none⟩)) rfl (Or.inl ⟨by rfl,fun W hW=>(by go_simp)⟩) (by assumption) ?_;refine tkL (i:=8) (oi:=⟨some 65,_,_,_,_,_⟩) (v:=.int .u64 s.limit) rfl (Or.inl ⟨by rfl,fun W hW=>(by rw[hW];go_simp)⟩) (by assumption) ?_;refine tkL (i:=9) (oi:=⟨some 66,_,_,_,_,_⟩) (v:=.int .u64 dl) rfl (Or.inl ⟨by rfl,fun W hW=>(by go_simp;rw[<-hmx];split<;>omega)⟩) (by assumption) ?_;refine wpAnyL_one (i:=10) (o:=⟨some 67,_,_,_,_,_⟩) (by kernel_rfl) rfl (fun K hK=>?_);rw[if_pos (by rfl)];go_simp;refine hK.out _ _ rfl (fun hHeld=>?_);clear hK K
   try simp only[Act.put,qa,qb,qc]
   refine wpAnyL_one (i:=11) (o:=⟨some 68,_,_,_,_,_⟩) (by kernel_rfl) rfl (fun K hK=>?_);rw[if_pos (by rfl)];go_simp;refine hK.out _ _ rfl (fun hHeld=>?_);clear hK K
   try simp only[Act.put,qa,qb,qc]
   refine wpAnyL_last (o:=⟨none,_,_,_,_,_⟩) (by kernel_rfl) (by kernel_rfl) rfl (fun K hK=>?_);rw[if_pos (by rfl)];go_simp;refine hK.out _ _ ?_;clear hK K hHeld d1 d2 f2
   try simp only[Act.put]
   refine then_let (fun V=>RxM V g s.cut W R sb (highE s.limit l) ub eb/\Blk V ob 34 #[.slice A m c]/\SL V 35 1 A m c ((lowE s.limit l).map SE.val)/\KeepF W w V/\V3.heap.size<=V.heap.size) HC.out ?_;clear HC;rintro V4 ⟨hT4,hO4,hS4,hK4,hz4⟩;obtain⟨bx,hbx⟩:∃b,b=V4.heap.size:=⟨_,rfl⟩
   obtain⟨V5,hV5⟩:∃v,v=V4.alloc (.cells #[.pointer (some ⟨g,0,none⟩)] 30):=⟨_,rfl⟩
   have hB5:Below V4.heap.size V4 V5:=by rw[hV5];exact bnA _
   have hX5:Blk V5 bx 30 #[.pointer (some ⟨g,0,none⟩)]:=by rw[hV5,hbx];exact Blk.new _ _ _
   have hz5:V5.heap.size=bx+1:=by rw[hV5,hbx];simp
   have HFM:=zh (from_made g V4);rw[<-hV5,<-hbx]at HFM;have hT5:=hT4.below hB5;have hI5:OutI w V3 W ob bx (lowE s.limit l) [] V5:=⟨A,c,by rw[List.append_nil,<-HM.out];exact hO4.below hB5 hO4.lt,by rw[List.append_nil,<-HM.out];exact hS4.next hB5,fun a ha=>⟨HA.out a ha,by have:=hS4.lt ha;omega⟩,hK4.more hB5⟩
   have hR5:FromR g s.cut W R sb (highE s.limit l) ub eb bx [] V5:=⟨highE s.limit l,rfl,fun k e h=>by simp at h,by
    have e:=hT5.lv;have e2:({ s.cut with L:=(highE s.limit l).map (·.v),deliver:=s.cut.deliver+(([]:List SE).length:Nat) }:RS)=s.cut:=by rw[e];simp
    rw[e2]
    exact hT5,hX5⟩
   have hwl:=HW.out;have hsl:sb < V3.heap.size:=by have:=HW.out.1 _ HWG.out.2;omega
   have hgo:=HGO.out;have hlv4:=hT4.lv;have hbx3:V3.heap.size<=bx:=by omega
   have HH:=zh (And.intro hI5 (And.intro hR5 (And.intro hz5 (And.intro hbx hlv4))));clear hT4 hO4 hS4 hK4 hT5 hI5 hR5 hB5 hX5 hV5 hlv4 hbx;go_wp2_with (go_at_call 34;refine(HFM.out).mono ?_;rintro e w3 ⟨rfl,rfl⟩);refine(wpIn_wide (n:=8)).1 ?_;refine wpIn_rangeFunc_work rfl (by decide) (gf:=66) (lb:=#[.pointer (some ⟨bx,0,none⟩)]) rfl trivial (enters_of Tryz.func66 (by kernel_rfl) rfl)
    (from_seq g s.cut W R sb (highE s.limit l) ub eb bx 7 (by decide) (by omega) (by omega)) (fun _=>rfl) (fun A B k o h hk ho _ _=>h.same ho (by rintro (e | e)<;>omega))
    (OutI w V3 W ob bx (lowE s.limit l)) (outI_loop _ _ _ _ _ _ _ (by omega)) (fun pre A B h hk=>outI_keep h hk (fun k e=>by
     rcases e with rfl | rfl
     ·exact⟨by omega,fun e=>hgo.1 e.symm,HWG.out.1⟩
     ·exact⟨by omega,fun e=>hgo.2 e.symm,HWG.out.2⟩))
    (fun _=>fromR_loop g s.cut W R sb (highE s.limit l) ub eb bx _ (by omega) (fun k hk=>by have:=hwl.1 k hk;omega) (fun k hk=>by have:=hwl.2 k hk;omega)) HH.out.1
    (fun u A A' row h hg hr=>fromR_loop g s.cut W R sb (highE s.limit l) ub eb bx V5.heap.size (by omega) (fun k hk=>by have:=hwl.1 k hk;omega) (fun k hk=>by have:=hwl.2 k hk;omega) [] A A' row h hg hr) HH.out.2.1 ?a1 ?assign ?body ?done
   case assign=>
    intro lp x Wa K hK
    gi_wp2
    simp only[SE.val]
    exact hK
   case body=>
    rintro lp i pre x Wb ⟨A2,c2,hO2,hS2,hA2,hK2⟩ hR2;have hgs:=hK2.size;have hlen:(lowE s.limit l++pre).length<=l.length:=by
     obtain⟨rest,e1,_⟩:=hR2;have h1:=congrArg List.length (low_high s.limit HRI.out);have h2:=congrArg List.length e1;simp only[List.length_append,List.length_cons,List.length_nil]at h1 h2 ⊢;omega
    have hll2:=HLL.out;obtain⟨i0,hi0,hz0,hz1,hz2⟩:=info_parts Tryz.infoSl;obtain⟨n2,hn2⟩:∃n,n=(lowE s.limit l++pre).length:=⟨_,rfl⟩
    rw[<-hn2]at hO2 hS2 hlen;have hszb:=hR2.choose_spec.2.2.2.lt;have HN2:=zh hn2;have HO2:=zh hO2;have HS2:=zh hS2;have HA2:=zh hA2;have HK2:=zh hK2;have HR2:=zh hR2;have co:=hO2.cell 0;have co1:Wb.cell? ⟨ob,0,none⟩=some (.slice A2 n2 c2):=co;clear co hO2 hS2 hA2 hK2 hR2 hn2 HH
    gi_wp2_with (gi_at_builtin;refine wpListIn_sl_append rfl _ _ 34 34 rfl _ 35 i0 (.slice none 0 0) 1 24 Tryz.underlying34 hi0 hz0 hz1 hz2 rfl A2 n2 c2 _ rfl (HS2.out.next ((Below.refl _ Wb).alloc (Nat.le_refl _) _)) (.slice (some ⟨Wb.heap.size,0,none⟩) 1 1) rfl 1 [x.val] (src_new Wb x.val rfl) (by omega) (by unfold maxLen;omega) (by omega) ?_;intro A3 c3 w6 hs6 hk6 ho6;have hE6:KeepF (fun k=>∃a,A2=some a/\k=a.block) Wb w6:=((KeepF.refl (w:=Wb)).alloc _).trans hk6 (fun k _ h=>h);have hc1:w6.cell? ⟨ob,0,none⟩=some (.slice A2 n2 c2):=(hE6.cell (p:=⟨ob,0,none⟩) HO2.out.lt (by rintro ⟨a,ha,h⟩;have:=(HA2.out a ha).1;simp only at h;omega)).trans co1;have hf1:w6.frozen? ⟨ob,0,none⟩=false:=(hE6.blk HO2.out (by rintro ⟨a,ha,h⟩;have:=(HA2.out a ha).1;omega)).frozen 0;have HS6:=zh hs6;have HE6:=zh hE6;have HO6:=zh ho6;clear hs6 hk6 ho6 hE6)
    have hk7:=keep_set w6 ob 0 (.slice A3 (n2+1) c3);have hE7:KeepF (fun k=>(∃a,A2=some a/\k=a.block)\/k=ob) Wb (w6.setCell ⟨ob,0,none⟩ (.slice A3 (n2+1) c3)):=(HE6.out.mono (fun _ h=>.inl h)).trans hk7 (fun k _ h=>.inr h);have hA6:∀a,A3=some a->V3.heap.size<=a.block/\a.block ≠ bx:=fun a ha=>by
     rcases HO6.out a ha with ⟨a',h1,h2⟩ | h2
     ·rw[h2];exact HA2.out a' h1
     ·simp at h2;omega
    have hn3:(lowE s.limit l++(pre++[x])).length=n2+1:=by rw[<-List.append_assoc,List.length_append,<-HN2.out];rfl
    have hmp:(lowE s.limit l++(pre++[x])).map SE.val=(lowE s.limit l++pre).map SE.val++[x.val]:=by rw[<-List.append_assoc,List.map_append];rfl
    refine⟨hE7.from2 _ (fun k o hf hk=>?k1),⟨A3,c3,?k2,?k3,hA6,?k4⟩,fromR_keep HR2.out hE7 (fun k hf=>?k5) (fun hf=>?k6)⟩
    case k1=>
     rcases hf with ⟨a,ha,rfl⟩ | rfl
     ·obtain⟨cur,hcur⟩:=HS2.out.obj ha;rw[hcur]at hk;cases hk;rfl
     ·rw[show Wb.heap[k]? = _ from HO2.out]at hk;cases hk;rfl
    case k2=>
     rw[hn3]
     exact(HE6.out.blk HO2.out (by rintro ⟨a,ha,h⟩;have:=(HA2.out a ha).1;omega)).set_ 0 _
    case k3=>
     rw[hn3,hmp]
     exact HS6.out.keepF hk7 (fun a ha e=>by have:=(hA6 a ha).1;omega)
    case k4=>
     exact HK2.out.trans hE7 (fun k hk h=>by
      rcases h with ⟨a,ha,rfl⟩ | rfl
      ·have:=(HA2.out a ha).1;omega
      ·omega)
    case k5=>
     rcases hf with ⟨a,ha,rfl⟩ | rfl
     ·have:=(HA2.out a ha).1
      exact⟨fun hw=>by have:=hwl.1 _ hw;omega,fun hw=>by have:=hwl.2 _ hw;omega⟩
     ·exact⟨fun hw=>by have:=hwl.1 _ hw;omega,fun hw=>by have:=hwl.2 _ hw;omega⟩
    case k6=>
     rcases hf with ⟨a,ha,h⟩ | h
     ·exact(HA2.out a ha).2 h.symm
     ·omega
   case done=>
    rintro D i xs Wd hD hxs ⟨A2,c2,hO2,hS2,hA2,hK2⟩ hR hDK;obtain⟨rest,hre,hxm,hTd⟩:=fromR_end hR hxs HH.out.2.2.2.2;have hro2:0<=s.cut.deliver_.2.C.ro/\s.cut.deliver_.2.C.ro<=1073741824:=HRO.out;have HTM:=zh (rtimer_ok g s.cut.deliver_.2 W R sb rest ub eb Wd hTd hro2);obtain⟨n2,hn2⟩:∃n,n=(lowE s.limit l++xs).length:=⟨_,rfl⟩
    rw[<-hn2]at hO2 hS2;have HN2:=zh hn2;have HO2:=zh hO2;have HS2:=zh hS2;have HA2:=zh hA2;have HK2:=zh hK2;have HDK:=zh hDK;have HRE:=zh (And.intro hre hxm);clear hO2 hS2 hA2 hK2 hR hTd hDK hn2 hro2 hre hxm HH hxs;go_wp2_with (go_at_call 35;refine(HTM.out).mono ?_;rintro e W6 ⟨rfl,hT6,hk6⟩;have co1:W6.cell? ⟨ob,0,none⟩=some (.slice A2 n2 c2):=(hk6.blk HO2.out hgo.1).cell 0;have fo1:=(hk6.blk HO2.out hgo.1).frozen 0;have HT6:=zh hT6;have HK6:=zh hk6;clear hT6 hk6);have hk7:=keep_set W6 ob 0 (.slice A2 n2 c2);have hk8:=KeepF.of_putObj (W6.setCell ⟨ob,0,none⟩ (.slice A2 n2 c2)) D (.deferred none);have hDK6:W6.heap[D]? = some (.deferred (some [])):=HK6.out.same HDK.out (by omega);have hDK7:(W6.setCell ⟨ob,0,none⟩ (.slice A2 n2 c2)).heap[D]? = some (.deferred (some [])):=hk7.same hDK6 (by omega);refine⟨by simp,.inl ⟨_,_,rfl,run_takeDeferred hDK7,?_⟩⟩;have hO8:Blk ((W6.setCell ⟨ob,0,none⟩ (.slice A2 n2 c2)).putObj D (.deferred none)) ob 34 #[.slice A2 n2 c2]:=hk8.blk ((HK6.out.blk HO2.out hgo.1).set_ 0 _) (by omega);have co8:((W6.setCell ⟨ob,0,none⟩ (.slice A2 n2 c2)).putObj D (.deferred none)).cell? ⟨ob,0,none⟩=some (.slice A2 n2 c2):=hO8.cell 0;have hkw:KeepF (fun k=>k=ob\/k=D) W6 ((W6.setCell ⟨ob,0,none⟩ (.slice A2 n2 c2)).putObj D (.deferred none)):=(hk7.mono (fun _ h=>.inl h)).trans hk8 (fun _ _ h=>.inr h);have hnn:∀k,k=ob\/k=D->¬W k/\¬R k:=fun k e=>by
     rcases e with rfl | rfl
     ·exact⟨fun hw=>by have:=hwl.1 _ hw;omega,fun hw=>by have:=hwl.2 _ hw;omega⟩
     ·exact⟨fun hw=>by have:=hwl.1 _ hw;omega,fun hw=>by have:=hwl.2 _ hw;omega⟩
    have hgD:g < D:=by omega
    refine⟨.slice A2 n2 c2,by simp[results,Tryz.results31,go_sem,co8],?_⟩;refine⟨A2,c2,lowE s.limit l++xs,rest,by rw[HN2.out],⟨?o1,?o2⟩,?o3,?o4,?o5,?o6,?o7⟩
    case o1=>
     rw[<-HN2.out];refine(HS2.out.keepF HK6.out (fun a ha e=>by have:=(HA2.out a ha).1;omega)).keepF hkw (fun a ha e=>?_);have h1:=(HA2.out a ha).1;rcases e with e | e
     ·omega
     ·obtain⟨cur,hcur⟩:=HS2.out.obj ha;rw[e,HDK.out]at hcur;cases hcur
    case o2=>exact fun a ha=>by have:=(HA2.out a ha).1;omega
    case o3=>
     rw[HX.out,List.map_append,HRE.out.2,low_map,HLV.out]
    case o4=>
     intro x hx;rw[low_high s.limit HRI.out,List.mem_append];rcases List.mem_append.1 hx with h | h
     ·exact .inl h
     ·exact .inr (by rw[HRE.out.1];exact List.mem_append.2 (.inl h))
    case o5=>
     intro x hx;rw[low_high s.limit HRI.out,List.mem_append,HRE.out.1]
     exact .inr (List.mem_append.2 (.inr hx))
    case o6=>
     rw[HX.out]
     exact HT6.out.keepF hkw hnn
    case o7=>
     exact(HK2.out.trans HK6.out (fun k _ e=>by rw[e];exact HWG.out.1)).trans hkw (fun k hk e=>by rcases e with rfl | rfl<;>omega)
  obtain⟨kb,ko,rfl,hkb,hkc⟩:=HKR.out (by omega);have hkbf:=HKF.out _ rfl;have hsz:=HSZ.out;have hv2:=HV2.out;have hsl:sb < w.heap.size:=HW.out.1 _ HWG.out.2;obtain⟨key,hkey⟩:∃key,key=(keysE l).getD k 0:=⟨_,rfl⟩
  have ck:wr.cell? ⟨kb,ko+k,none⟩=some (.int .u64 key):=by
   rw[hkey]
   exact(HKV.out.cell (p:=⟨kb,ko+k,none⟩) hkb (by show ¬(kb=sb\/kb=ob);simp only at hkbf;omega)).trans (hkc k hkl)
  have hlow:=drop_low (k:=s.limit) HRI.out hkl;rw[<-hkey,<-HM.out]at hlow;have cl:wr.cell? ⟨g,45,none⟩=some (.int .u64 s.limit):=by rw[<-HSF.out.1];exact HT.out.climit
  have k0:(0:Int)<=(k:Int):=by omega
  have k1:(k:Int) < (l.length:Int):=by omega
  have HKY:=zh hkey;have hll:l.length<=250:=HLL.out;clear hkc hkb hkey hkbf;by_cases hkm:k < m;rotate_left
  ·have t2:¬key < s.limit:=fun h=>hkm (hlow.1 h);have hmin:min (k+1) m=min k m:=by omega
   clear hlow;go_wp2;go_roundw
   case rel=>exact⟨k+1,by omega,by go_num,A,c,by rw[hmin];exact HO.out,by rw[hmin];exact HS.out,HA.out,by rw[hmin];exact HT.out,HKV.out⟩
   case measure=>simp[intOf];omega
  have t2:key < s.limit:=hlow.2 hkm;have hmin:min k m=k:=by omega
  have hmin2:min (k+1) m=k+1:=by omega
  rw[hmin]at HO HS HT;obtain⟨e,r,hd,he⟩:∃e r,l.drop k=e :: r/\l[k]? = some e:=⟨l[k],l.drop (k+1),List.drop_eq_getElem_cons hkl,List.getElem?_eq_getElem hkl⟩
  have hr:l.drop (k+1)=r:=by
   have:=congrArg List.tail hd
   rwa [List.tail_drop]at this
  rw[hd]at HT;have hct:key=e.v.ct:=by rw[HKY.out];unfold keysE;rw[List.getD_eq_getElem?_getD,List.getElem?_map,he];rfl
  have hfs:findS key (e :: r)=some e:=by rw[hct];unfold findS;simp
  have hok:=HT.out.ok;have hrg:=HT.out.rng e (by simp);have hk0:0<=key:=by rw[hct];have:=hok.deliver.1;omega
  have hk9:key < 18446744073709551616:=by rw[hct];have:=hok.next;omega
  have HFA:=zh (show ∀W',KeepF (fun k=>∃a,A=some a/\k=a.block) wr W'->RxM W' g { s1 with L:=(e :: r).map (·.v) } W R sb (e :: r) ub eb from fun W' hW=>HT.out.keepF hW (fun k ⟨a,ha,h⟩=>by
   have h1:=HA.out a ha
   exact⟨fun hw=>by have:=HW.out.1 _ hw;omega,fun hw=>by have:=HW.out.2 _ hw;omega⟩))
  have HOA:=zh (show ∀W',KeepF (fun k=>∃a,A=some a/\k=a.block) wr W'->Blk W' ob 34 #[.slice A k c]from fun W' hW=>hW.blk HO.out (fun⟨a,ha,h⟩=>by have:=HA.out a ha;omega));have HLK:=zh (show ∀W',KeepF (fun k=>∃a,A=some a/\k=a.block) wr W'->(Instr.lookup 78 (.map (some sb)) (.int .u64 key) false).run Tryz.prog W'=.ok e.val W' from fun W' hW=>smap_at (HFA.out W' hW).st hk0 hk9 hfs);have HCT:=zh hct;have HHD:=zh (And.intro hd (And.intro he hr));obtain⟨ev,hev⟩:∃ev,ev=e.val:=⟨_,rfl⟩
  rw[<-hev]at HLK;have HEV:=zh hev;have HE1:Hid (ev.oneCell'=true):=zh (by rw[hev];rfl);obtain⟨i0,hi0,hz0,hz1,hz2⟩:=info_parts Tryz.infoSl;have hkk:k < 300:=by have:=HLL.out;omega
  clear hlow hmin hct hfs hok hrg hk0 hk9 hd he hr hev;go_upto_region 8 with (fail)
  refine wp_region_Ln (L:=9) (S:=fun w'=>KeepF (fun k=>∃a,A=some a/\k=a.block) wr w') (by kernel_rfl) (KeepF.refl.drew) (fun hHeld=>?_);refine tkL (i:=0) (oi:=⟨some 42,_,_,_,_,_⟩) (v:=.slice A k c) rfl (Or.inl ⟨by rfl,fun W hW=>(by have:=(HOA.out W hW).cell 0;simp at this;go_simp)⟩) (by assumption) ?_;refine tkL (i:=1) (oi:=⟨some 43,_,_,_,_,_⟩) (v:=.pointer (some ⟨g,0,none⟩)) rfl (Or.inl ⟨by rfl,fun W hW=>(by rfl)⟩) (by assumption) ?_;refine tkL (i:=2) (oi:=⟨some 44,_,_,_,_,_⟩) (v:=.pointer (some ⟨g,0,none⟩)) rfl (Or.inl ⟨by rfl,fun W hW=>(by go_simp)⟩) (by assumption) ?_;refine tkL (i:=3) (oi:=⟨some 45,_,_,_,_,_⟩) (v:=.pointer (some ⟨g,43,none⟩)) rfl (Or.inl ⟨by rfl,fun W hW=>(by go_simp)⟩) (by assumption) ?_;refine tkL (i:=4) (oi:=⟨some 46,_,_,_,_,_⟩) (v:=.map (some sb)) rfl (Or.inl ⟨by rfl,fun W hW=>(by have:=(HFA.out W hW).cs;go_simp)⟩) (by assumption) ?_;refine tkL (i:=5) (oi:=⟨some 47,_,_,_,_,_⟩) (v:=.int .u64 key) rfl (Or.inl ⟨by rfl,fun W hW=>(by rfl)⟩) (by assumption) ?_;refine tkL (i:=6) (oi:=⟨some 48,_,_,_,_,_⟩) (v:=ev) rfl (Or.inl ⟨by rfl,fun W hW=>(by have:=HLK.out W hW;go_simp)⟩) (by assumption) ?_;refine wpAnyL_one (i:=7) (o:=⟨some 49,_,_,_,_,_⟩) (by kernel_rfl) rfl (fun K hK=>?_);rw[if_pos (by rfl)];refine wp_build_sl _ rfl _ ev e.A e.v.n e.c rfl HEV.out ?_;have hE1:KeepF (fun k=>∃a,A=some a/\k=a.block) wr (wr.drew.alloc (.cells #[ev] 35)):=KeepF.refl.drew.alloc _;refine hK.out _ _ hE1 (fun hHeld=>?_);clear hK K
  try simp only[Act.put,qa,qb,qc]
  refine wpAnyL_one (i:=8) (o:=⟨some 50,_,_,_,_,_⟩) (by kernel_rfl) rfl (fun K hK=>?_);rw[if_pos (by rfl)];have hS1:SL (wr.drew.alloc (.cells #[ev] 35)) 35 1 A k c ((l.take k).map SE.val):=HS.out.next (((Below.refl _ wr).drew).alloc (Nat.le_refl _) _);refine wp_sl_append _ _ 34 34 rfl _ 35 i0 (.slice none 0 0) 1 24 Tryz.underlying34 hi0 hz0 hz1 hz2 rfl A k c ((l.take k).map SE.val) rfl hS1 (.slice (some ⟨wr.heap.size,0,none⟩) 1 1) rfl 1 [ev]
   (Src.ofSlice _ Tryz.underlying34 ⟨wr.heap.size,0,none⟩ 1 1 [ev] (by rfl) (fun j u hu=>by
    cases j with
    | zero=>rw[Addr.add_lit];simp at hu;subst hu;exact(Blk.new wr.drew 35 #[ev]).cell 0
    | succ j=>simp at hu) (by intro u hu;simp at hu;subst hu;exact HE1.out)) (by omega) (by unfold maxLen;omega) (by omega) (fun A2 c2 w6 hs6 hk6 ho6=>?_)
  have hE6:KeepF (fun k=>∃a,A=some a/\k=a.block) wr w6:=hE1.trans hk6 (fun k _ h=>h);have HS6:=zh (show SL w6 35 1 A2 (k+1) c2 ((l.take (k+1)).map SE.val) by
   rw[List.take_add_one,HHD.out.2.1,List.map_append,Option.toList_some,List.map_cons,List.map_nil,<-HEV.out]
   exact hs6)
  have HA6:=zh (show ∀a,A2=some a->V3.heap.size<=a.block from fun a ha=>by
   rcases ho6 a ha with ⟨a',h1,h2⟩ | h2
   ·rw[h2];exact HA.out a' h1
   ·exact Nat.le_trans HKV.out.size (Nat.le_trans (by simp) h2))
  have HE6:=zh hE6;refine hK.out _ _ hE6 (fun hHeld=>?_);clear hK K hs6 hk6 ho6 hE1 hS1 hE6
  try simp only[Act.put,qa,qb,qc]
  refine wpAnyL_last (o:=⟨none,_,_,_,_,_⟩) (by kernel_rfl) (by kernel_rfl) rfl (fun K hK=>?_);rw[if_pos (by rfl)];have co:w6.cell? ⟨ob,0,none⟩=some (.slice A k c):=(HOA.out w6 HE6.out).cell 0;have fo:=(HOA.out w6 HE6.out).frozen 0;go_simp;clear co fo;refine hK.out _ _ ?_;clear hK K hHeld
  try simp only[Act.put]
  have hne2:∀a,A2=some a->ob ≠ a.block:=fun a ha=>by have:=HA6.out a ha;omega
  have hnW:¬W ob/\¬R ob:=⟨fun hw=>by have:=HW.out.1 _ hw;omega,fun hw=>by have:=HW.out.2 _ hw;omega⟩
  have hK7:=keep_set w6 ob 0 (.slice A2 (k+1) c2);have hT7:=(HFA.out w6 HE6.out).keepF hK7 (fun k e=>by subst e;exact hnW);have hE67:KeepF (fun k=>(∃a,A=some a/\k=a.block)\/k=ob) wr (w6.setCell ⟨ob,0,none⟩ (.slice A2 (k+1) c2)):=(HE6.out.mono (fun _ h=>.inl h)).trans hK7 (fun k _ h=>.inr h);refine then_let (fun V=>RxM V g { s1 with L:=(e :: r).map (·.v) } W R sb (e :: r) ub eb/\Blk V ob 34 #[.slice A2 (k+1) c2]/\SL V 35 1 A2 (k+1) c2 ((l.take (k+1)).map SE.val)/\KeepF (fun k=>k=sb\/k=ob) V3 V) ⟨hT7,(HOA.out w6 HE6.out).set_ 0 _,HS6.out.keepF hK7 (fun a ha e=>hne2 a ha e.symm),HKV.out.trans hE67 (fun k hk h=>by
   rcases h with ⟨a,ha,h⟩ | h
   ·have:=HA.out a ha;omega
   ·exact .inr h)⟩ ?_
  rintro V ⟨hT8,hO8,hS8,hKV8⟩;have hr8:RxM V g { s1 with L:=(e :: r).map (·.v) } W R sb (e :: r) ub eb:=hT8;obtain⟨V9,hdel,hT9,hk9⟩:=hT8.delHead;rw[<-HCT.out]at hdel;have HDEL:=zh hdel;have hO9:=hk9.blk hO8 HGO.out.2;have hS9:SL V9 35 1 A2 (k+1) c2 ((l.take (k+1)).map SE.val):=hS8.keepF hk9 (fun a ha e=>by have:=HA6.out a ha;omega);have hKV9:=hKV8.trans hk9 (fun k _ h=>.inl h);have cs8:=hr8.cs;have F9:=zh (And.intro hO9 (And.intro hS9 (And.intro hT9 hKV9)));clear hr8 hT8 hO8 hS8 hKV8 hdel hT9 hk9 hO9 hS9 hKV9;go_wp2_with (first | (refine wpList_delete_run rfl _ _ rfl rfl rfl HDEL.out ?_));go_roundw
  case rel=>exact⟨k+1,by omega,by go_num,A2,c2,by rw[hmin2];exact F9.out.1,by rw[hmin2];exact F9.out.2.1,HA6.out,by rw[hmin2,HHD.out.2.2];exact F9.out.2.2.1,F9.out.2.2.2⟩
  case measure=>simp[intOf];omega
end Go.Proofs.YtnadmdadcpemnaaGreat

import Derived.Test.YtbfpdnnphdagjaaGreatMIIy
import Derived.Test.YtbfpdnnphdagjaaGreatRLy
import Derived.OwnWalkIn
set_option maxRecDepth 100000
set_option maxHeartbeats 1600000
set_option linter.unusedVariables false
set_option linter.unusedSimpArgs false
namespace Go.Proofs.YtbfpdnnphdagjaaGreat
open Go.RowKit
attribute [local go_sem] Oper.semAt_some
def ze (w:World) (B:Nat) (A:Option Addr) (c:Nat) (lo:List SE):Prop:=SL w 41 1 A lo.length c (lo.map SE.val)/\∀a,A=some a->B<=a.block
def A8 (s:RS) (W R:Nat->Prop) (g sb:Nat) (l:List SE) (ub eb:Nat) (w:World) (e:Ending) (w':World):Prop:=
 ∃A c lo l',e=.returned (.slice A lo.length c)/\ze w' w.heap.size A c lo/\lo.map (·.v)=s.expire.1/\(∀x,x∈lo->x∈l)/\(∀x,x∈l'->x∈l)/\aN w' g s.expire.2 W R sb l' ub eb/\aa W w w'
theorem g8 {F:Fence} {nn:Nat} {P:Program} {ops:Array Oper} {rest:List Oper} {o:Oper} {a:Act} {Q:Exit->Act->World->Prop} (hgd:o.guard=none) (s x:Operand) (t tx:TypeId) (ho:o.op=.call { callee:=.builtin .append,args:=#[s,x],argTypes:=#[t,tx] })
  (w:World) (e:TypeId) (i:TypeInfo) (z:Value) (sz bytes:Nat) (ht:P.underlying t=some (.slice e)) (hi:P.info? e=some i) (hz:i.zero=some z) (hsize:i.size=sz) (hby:i.bytes=bytes) (hzs:z.cells.size=sz)
  (A:Option Addr) (n c:Nat) (xs:List Value) (hsv:a.eval s=.slice A n c) (h:SL w e sz A n c xs) (xv:Value) (hxv:a.eval x=xv) (m:Nat) (news:List Value) (hs:Src P sz tx xv m news w) (hm:0 < m) (h63:n+m<=maxLen) (hbytes:(n+m)*bytes<=140737488355328)
  (hK:∀A' c' w',SL w' e sz A' (n+m) c' (xs++news)->aa (fun k=>∃a,A=some a/\k=a.block) w w'->(∀a,A'=some a->(∃a',A=some a'/\a.block=a'.block)\/w.heap.size<=a.block)->wpListIn F nn P ops Q rest (a.put o.dst (.slice A' (n+m) c')) w'):wpListIn F nn P ops Q (o :: rest) a w:=by
 refine wpListIn_plain hgd fun K' hK'=>?_;obtain⟨A',c',w',hrun,h1,h2,h3⟩:=jj w t tx o.type e i z sz bytes ht hi hz hsize hby hzs h xv m news hs hm h63 hbytes;unfold Oper.wpIn;refine⟨?_,?_⟩
 ·simp[Oper.about,ho,resolve,Target.leads,Sem.run_pure]
 ·rw[Oper.semAt_plain F _ _ (by rw[ho];intro c hc';cases hc')];simp[execOp,ho,resolve,invoke,builtin,hsv,hxv,hrun,Result.andThen]
  exact hK' _ _ (hK A' c' w' h1 h2 h3)
theorem nZ (w:World) (v:Value) (hv:v.oneCell'=true):Src Tryz.prog 1 36 (.slice (some ⟨w.heap.size,0,none⟩) 1 1) 1 [v] (w.alloc (.cells #[v] 41)):=
 Src.ofSlice _ Tryz.underlying36 ⟨w.heap.size,0,none⟩ 1 1 [v] (by rfl) (fun j u hu=>by
  cases j with
  | zero=>rw[Addr.add_lit];simp at hu;subst hu;exact(ae.new w 41 #[v]).cell 0
  | succ j=>simp at hu) (by intro u hu;simp at hu;subst hu;exact hv)
theorem vI (A:Option Addr) (n c:Nat) (w:World):(Instr.buildSlice 36 1 #[(0,.slice A n c)]).run Tryz.prog w=.ok (.slice (some ⟨w.heap.size,0,none⟩) 1 1) (w.alloc (.cells #[.slice A n c] 41)):=by kernel_rfl
theorem jI {o:Oper} {a:Act} {K:Act->World->Prop} {Q:Exit->Act->World->Prop} (x:Operand) (ho:o.op=.buildSlice 36 1 #[(0,x)]) (w:World) (v:Value) (A:Option Addr) (n c:Nat) (hx:a.eval x=v) (hv:v=.slice A n c)
  (h:K (a.put o.dst (.slice (some ⟨w.heap.size,0,none⟩) 1 1)) (w.alloc (.cells #[v] 41))):o.wp Tryz.prog a w K Q:=by
 subst hv;unfold Oper.wp execOp;simp only[ho,Sem.run_bind,List.map_toArray,List.map_cons,List.map_nil,hx,vI,Result.andThen_ok]
 exact h
theorem fF {P:Program} {ops:Array Oper} {Q:Exit->Act->World->Prop} {S:World->Prop} {L:Nat} {id:Nat} {a:Act} {w:World} (hm:P.follows .mixedOrders=true) (hS:S w.drew)
  (h:S w.drew->bO P .any ops (fun x a w=>match x with | .panic _=>False | y=>Q y a w) S L ops.size (Array.replicate ops.size false) a w.drew):(Code.region id ops true).wp P Q a w:=
 Code.wp_mono (fun e a w h=>by cases e<;>first | exact h.elim | exact h) (gn hm hS h)
theorem Tryz.infoSl:(Tryz.prog.info? 41).map (fun i=>(i.zero,i.size,i.bytes))=some (some (.slice none 0 0),1,24):=by kernel_rfl
theorem nQ (g:Nat) (s:RS) (W R:Nat->Prop) (sb:Nat) (l:List SE) (ub eb:Nat) (w:World) (h:aN w g s W R sb l ub eb) (hi:s.run=false\/s.now < s.expiry) :
  Calls Tryz.prog 49 #[.pointer (some ⟨g,0,none⟩)] w (A8 s W R g sb l ub eb w):=by
 have HX:=Lib.hid (show s.expire=([],s) by unfold RS.expire;rw[if_pos hi]);obtain⟨ob,hob⟩:=af w.heap.size
 obtain⟨W1,hW1⟩:=af (w.alloc (.cells #[.slice none 0 0] 36))
 have hB1:Below w.heap.size w W1:=by rw[hW1];exact(Below.refl _ w).alloc ay _
 have hO:ae W1 ob 36 #[.slice none 0 0]:=by rw[hW1,hob];exact ae.new _ _ _
 have hT:=h.below hB1;have c1:=hT.crun;have c2:=hT.cnow;have c3:=hT.cexpiry;have c4:W1.cell? ⟨ob,0,none⟩=some (.slice none 0 0):=hO.cell 0;have f4:=hO.frozen 0;have HB1:=Lib.hid hB1;have HT:=Lib.hid hT;have HO:=Lib.hid hO;have HWW:=Lib.hid hW1;have HOB:=Lib.hid hob;have HEND:=Lib.hid (show ∀V,aa (fun k=>k=ob) W1 V->aN V g s W R sb l ub eb/\aa W w V from fun V hV=>⟨hT.keepF hV (fun k e=>by
  subst e
  exact⟨fun hw=>by have:=h.win _ hw;omega,fun hr=>by have:=h.rin _ hr;omega⟩),(aa.of_below hB1).trans hV (fun k hk e=>by omega)⟩)
 clear h hB1 hO hT hW1 hob
 cases hrn:s.run
 focus
  rw[hrn]at c1
 rotate_left
 focus
  rw[hrn]at c1;have t1:s.now < s.expiry:=by rcases hi with h | h;rw[hrn]at h;cases h;exact h
 all_goals
  clear hrn hi;go_enter Tryz.func49,Tryz.ntmps49;go_upto_region 1 with (fail)
  rw[<-HWW.out,<-HOB.out];go_region;go_wp2;refine bodyPost_ret (v:=.slice none 0 0) (by simp[results,Tryz.results49,go_sem,c4]) rfl ?_;rw[A8,HX.out]
  exact⟨none,0,[],l,rfl,⟨SL.nil _ _ _,fun a h=>by cases h⟩,rfl,fun x hx=>by simp at hx,fun x hx=>hx,(HEND.out _ (aC W1 ob 0 _).drew).1,(HEND.out _ (aC W1 ob 0 _).drew).2⟩
theorem tk (g:Nat) (w:World):Calls Tryz.prog 52 #[.pointer (some ⟨g,0,none⟩)] w fun e w'=>e=.returned (.func (.func 77) #[] #[.pointer (some ⟨w.heap.size,0,none⟩)])/\w.alloc (.cells #[.pointer (some ⟨g,0,none⟩)] 32)=w':=by
 go_enter Tryz.func52,Tryz.ntmps52;go_wp2;go_ret
 exact⟨rfl,rfl⟩
theorem aa.of_putObj (W:World) (D:Nat) (o:Obj):aa (fun k=>k=D) W (W.putObj D o):=aa.of_row (grownBy_putObj' W D o) rfl
theorem aa.from2 {F:Nat->Prop} {A C:World} (h:aa F A C) (B:Nat) (hc:∀k o,F k->A.heap[k]? = some o->o.isCells=true):KeepsFrom B A C:=
 ⟨h.size,fun k o _ hk ho=>h.same hk (fun hf=>by rw[hc k o hf hk]at ho;cases ho)⟩
theorem kU {g:Nat} {s:RS} {Ws R:Nat->Prop} {sb:Nat} {l0:List SE} {ub eb bx:Nat} {pre:List SE} {V V':World} {F:Nat->Prop} (h:jv g s Ws R sb l0 ub eb bx pre V) (hk:aa F V V') (h1:∀k,F k->¬Ws k/\¬R k) (h2:¬F bx):jv g s Ws R sb l0 ub eb bx pre V':=by
 obtain⟨rest,e1,e2,e3,e4⟩:=h
 exact⟨rest,e1,e2,e3.keepF hk h1,hk.blk e4 h2⟩
theorem kN (g:Nat) (s:RS) (Ws R:Nat->Prop) (sb:Nat) (l0:List SE) (ub eb bx B:Nat) (hB:bx < B) (hW:∀k,Ws k->k < B) (hR:∀k,R k->k < B):cX B (jv g s Ws R sb l0 ub eb bx):=fun pre V V' row h hg hr=>
 kU h (F:=fun k=>row=some k) ⟨hg.os,hg.tape,hg.output,hg.size,fun k hk hn=>hg.block k hk (fun e=>hn e.symm)⟩
  (fun k e=>⟨fun hw=>by have:=hW _ hw;have:=(hr _ e).1;omega,fun hw=>by have:=hR _ hw;have:=(hr _ e).1;omega⟩) (fun e=>by have:=(hr _ e).1;omega)
theorem uv {g:Nat} {s:RS} {Ws R:Nat->Prop} {sb:Nat} {l0:List SE} {ub eb bx:Nat} {xs:List SE} {V:World} (h:jv g s Ws R sb l0 ub eb bx xs V) (hx:xs=(eq l0 s.deliver).1) (hl:l0.map (·.v)=s.L) :
  ∃rest,l0=xs++rest/\xs.map (·.v)=s.deliver_.1/\aN V g s.deliver_.2 Ws R sb rest ub eb:=by
 obtain⟨rest,e1,e2,e3,e4⟩:=h;have h1:=mW l0 s.deliver;have h2:=mr l0 s.deliver;have h3:=nc (l0.map (·.v)) s.deliver;rw[<-hx]at h1 h2;have h4:rest=(eq l0 s.deliver).2:=List.append_cancel_left (e1.symm.trans h1.symm);refine⟨rest,e1,by unfold RS.deliver_;rw[h2.1,hl],?_⟩;have h5:(s.deliver_).2={ s with L:=rest.map (·.v),deliver:=s.deliver+xs.length }:=by
  unfold RS.deliver_;rw[h4,h2.2,hl];have:(aU s.L s.deliver).2.2=s.deliver+xs.length:=by
   rw[hl]at h3 h2;rw[h3,<-h2.1,List.length_map]
  simp only[this]
 rw[h5]
 exact e3
end Go.Proofs.YtbfpdnnphdagjaaGreat

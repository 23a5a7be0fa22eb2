import Derived.Test.YtiiojpnckbglcaaGreatUs
import Derived.Deep.AppendSrc
import Derived.BigQuiet
import Derived.Deep.MidRow
import Derived.Laws.AppendOwn
import Derived.Laws.Rows
set_option linter.unusedVariables false
set_option linter.unusedSimpArgs false
namespace Go.Proofs.YtiiojpnckbglcaaGreat
open Go.RowKit
theorem ag {P:Program} {c:Code} {Q:Exit->Act->World->Prop} {a:Act} {w:World} (R:World->Prop) (h:R w) (k:∀w',R w'->c.wp P Q a w'):c.wp P Q a w:=k w h
theorem ke {K:Act->World->Prop} {Q:Exit->Act->World->Prop} {a:Act} {w:World} (R:World->Prop) (h:R w) (k:∀w',R w'->Exit.then K Q .normal a w'):Exit.then K Q .normal a w:=k w h
theorem n5 {P:Program} {ops:Array Oper} {rest:List Oper} {o:Oper} {a:Act} {w:World} {Q:Exit->Act->World->Prop} (hw:Region.wanted o (yielded ops a.tmps)=true) (h:∀K:Act->World->Prop,(∀a w,wpList P ops Q rest a w->K a w)->o.wp P a w K Q):wpList P ops Q (o :: rest) a w:=
 wpList_step fun K hK=>by simp only[hw,if_true];exact h K hK
theorem eW {P:Program} {ops:Array Oper} {rest:List Oper} {o:Oper} {a:Act} {w:World} {Q:Exit->Act->World->Prop} (hgd:Region.wanted o (yielded ops a.tmps)=true) (ty:TypeId) (x:Operand) (ho:o.op=.load ty x)
  (g:Nat) (hx:a.eval x=.pointer (some ⟨g,0,none⟩)) (t:TypeId) (cs:Array Value) (fr:Nat×Nat) (d:TypeDesc) (hg:w.heap[g]? = some (.cells cs t fr))
  (hu:P.underlying ty=some d) (hd:(match d with | .struct _ | .array _ _=>true | _=>false)=true) (hi:(P.info? ty).map (·.size)=some cs.size)
  (h:wpList P ops Q rest (a.put o.dst (.agg cs)) w):wpList P ops Q (o :: rest) a w:=
 n5 hgd fun _ hK=>wp_load_row ty x ho g hx t cs fr d hg hu hd hi (hK _ _ h)
structure fQ (W:World) where
 v:World
 h:Below W.heap.size W v
instance fQ.inh (W:World):Nonempty (fQ W):=⟨⟨W,Below.refl _ _⟩⟩
theorem fQ.cell {W:World} (e:fQ W) {p:Addr} {x:Value} (hc:W.cell? p=some x) (hp:p.block < W.heap.size):e.v.cell? p=some x:=(e.h.cell hp).trans hc
def fQ.next {W:World} (e:fQ W) {w':World} (h:Below e.v.heap.size e.v w'):fQ W:=⟨w',e.h.trans (h.mono e.h.size)⟩
theorem bf {P:Program} {id:Nat} {Q:Exit->Act->World->Prop} {a:Act} {w:World} {l:List Oper} (hm:P.follows .mixedOrders=true) (hB:Region.lexB .any l.toArray=true)
  (h:wpQuiet P l.toArray (fun w'=>∃e:fQ w,w'=e.v) (fun a'=>∀w',(∃e:fQ w,w'=e.v)->Q .normal a' w') l a):(Code.region id l.toArray true).wp P Q a w:=
 wp_region_quiet (C:=fun w'=>∃e:fQ w,w'=e.v) hm hB ⟨⟨w.drew,(Below.refl _ w).drew⟩,rfl⟩ (by simpa using h)
theorem Calls.ext_ofT {P:Program} {f:FuncId} {args:Array Value} {W:World} {e:fQ W} {v:Value} (h:Calls P f args e.v fun en w'=>en=.returned v/\Below e.v.heap.size e.v w'):Calls P f args e.v fun en w''=>en=.returned v/\∃e':fQ W,w''=e'.v:=
 h.mono fun _ _ ⟨h1,h2⟩=>⟨h1,e.next h2,rfl⟩
structure aa (F:Nat->Prop) (w w':World):Prop where
 os:w'.os=w.os
 tape:w'.tape=w.tape
 output:w'.output=w.output
 size:w.heap.size<=w'.heap.size
 block:∀k,k < w.heap.size->¬F k->w'.heap[k]? = w.heap[k]?
section
variable {F G:Nat->Prop} {w w1 w2 w':World}
theorem aa.refl:aa F w w:=⟨rfl,rfl,rfl,Nat.le_refl _,fun _ _ _=>rfl⟩
theorem aa.of_below (h:Below w.heap.size w w'):aa F w w':=⟨h.os,h.tape,h.output,h.size,fun k hk _=>h.block k hk⟩
theorem aa.of_row {g:Nat} (h:w.grownBy w' (some g)) (hg:F g):aa F w w':=⟨h.os,h.tape,h.output,h.size,fun k hk hn=>h.block k hk (fun e=>by cases e;exact hn hg)⟩
theorem aa.trans (h:aa F w w1) (k:aa G w1 w2) (hs:∀b,b < w.heap.size->G b->F b):aa F w w2:=
 ⟨k.os.trans h.os,k.tape.trans h.tape,k.output.trans h.output,ba h.size k.size,fun b hb hn=>(k.block b (bg hb h.size) (fun hg=>hn (hs b hb hg))).trans (h.block b hb hn)⟩
theorem aa.mono (h:aa F w w') (hs:∀b,F b->G b):aa G w w':=⟨h.os,h.tape,h.output,h.size,fun b hb hn=>h.block b hb (fun hf=>hn (hs b hf))⟩
theorem aa.below {B:Nat} (hb:Below B w w1) (h:aa F w1 w') (hF:∀k,F k->B<=k) (hB:B<=w1.heap.size):Below B w w':=
 ⟨h.os.trans hb.os,h.tape.trans hb.tape,h.output.trans hb.output,ba hb.size h.size,fun k hk=>(h.block k (by omega) (fun hf=>by have:=hF k hf;omega)).trans (hb.block k hk)⟩
theorem aa.blk {b:Nat} {t:TypeId} {cs:Array Value} (h:aa F w w') (hB:ae w b t cs) (hn:¬F b):ae w' b t cs:=(h.block b hB.lt hn).trans hB
theorem aa.row {B n:Nat} {A:Option Addr} {v:Nat->Value} (h:aa F w w') (hr:au w B A n v) (hB:B<=w.heap.size) (hg:∀a,A=some a->n ≠ 0->¬F a.block):au w' B A n v:=fun hn=>by
 obtain⟨b,off,e,hb,hc⟩:=hr hn;refine⟨b,off,e,hb,fun j hj=>?_⟩
 exact(World.cell?_of_block (a:=⟨b,off+j,none⟩) (h.block b (by omega) (hg _ e (by omega)))).trans (hc j hj)
theorem aa.drew (h:aa F w w'):aa F w w'.drew:=⟨h.os,h.tape,h.output,h.size,h.block⟩
theorem aa.alloc (h:aa F w w') (o:Obj):aa F w (w'.alloc o):=
 ⟨h.os,h.tape,h.output,ba h.size (by simp),fun k hk hn=>(Below.heap_alloc w' o k (bg hk h.size)).trans (h.block k hk hn)⟩
theorem aa.setCell (h:aa F w w') {p:Addr} (hp:F p.block) (u:Value):aa F w (w'.setCell p u):=
 ⟨h.os,h.tape,h.output,by simpa using h.size,fun k hk hn=>(Below.heap_setCell w' p u k (fun e=>hn (e ▸ hp))).trans (h.block k hk hn)⟩
theorem aa.cell {p:Addr} (h:aa F w w') (hp:p.block < w.heap.size) (hn:¬F p.block):w'.cell? p=w.cell? p:=World.cell?_of_block (h.block _ hp hn)
end
def dC (cs:Array Value):Nat->List Value->Array Value
 | _,[]=>cs
 | o,v :: r=>dC (cs.setIfInBounds o v) (o+1) r
theorem bL:∀(vs:List Value) (o:Nat) (cs:Array Value),(dC cs o vs).size=cs.size
 | [],_,_=>rfl
 | v :: r,o,cs=>by rw[dC,bL r];simp
theorem cG:∀(vs:List Value) (o:Nat) (cs:Array Value) (j:Nat),j < o\/o+vs.length<=j->(dC cs o vs)[j]? = cs[j]?
 | [],_,_,_,_=>rfl
 | v :: r,o,cs,j,h=>by
  rw[dC,cG r (o+1) _ j (by simp at h;omega),Array.getElem?_setIfInBounds,if_neg (by simp at h;omega)]
theorem dY:∀(vs:List Value) (o:Nat) (cs:Array Value) (j:Nat),j < vs.length->o+j < cs.size->(dC cs o vs)[o+j]? = vs[j]?
 | [],_,_,_,h,_=>by simp at h
 | v :: r,o,cs,j,h,hs=>by
  rw[dC]
  cases j with
  | zero=>
   rw[cG r (o+1) _ (o+0) (by omega),Array.getElem?_setIfInBounds,if_pos (by omega),if_pos (by omega)];rfl
  | succ j=>
   have:=dY r (o+1) (cs.setIfInBounds o v) j (by simpa using h) (by simp;omega);rw[show o+(j+1)=o+1+j by omega,this];rfl
theorem bY {g:Nat} {t:TypeId}:∀(vs:List Value) (o:Nat) (w:World) (cs:Array Value),ae w g t cs->ae (w.setCells g o vs) g t (dC cs o vs)
 | [],_,_,_,h=>h
 | v :: r,o,w,cs,h=>bY r (o+1) (w.setCell ⟨g,o,none⟩ v) (cs.setIfInBounds o v) (h.set_ o v)
theorem gc {F:Nat->Prop} {b:Nat} (hb:F b):∀(vs:List Value) (o:Nat) (w:World),aa F w (w.setCells b o vs)
 | [],_,_=>aa.refl
 | v :: r,o,w=>((aa.refl (F:=F) (w:=w)).setCell (p:=⟨b,o,none⟩) hb v).trans (gc hb r (o+1) _) (fun _ _ h=>h)
structure SL (w:World) (e:TypeId) (sz:Nat) (A:Option Addr) (n c:Nat) (xs:List Value):Prop where
 len:xs.length=n*sz
 at_:(A=none/\n=0/\c=0)\/∃b o cur,A=some ⟨b,o,none⟩/\w.heap[b]? = some (.cells cur e (0,0))/\n<=c/\c<=maxLen/\o+c*sz<=cur.size/\∀j,j < n*sz->cur[o+j]? = xs[j]?
section
variable {w w':World} {e:TypeId} {sz:Nat} {A:Option Addr} {n c:Nat} {xs:List Value}
theorem SL.nil (w:World) (e:TypeId) (sz:Nat):SL w e sz none 0 0 []:=⟨by simp,.inl ⟨rfl,rfl,rfl⟩⟩
theorem SL.le (h:SL w e sz A n c xs):n<=c:=by
 rcases h.at_ with ⟨_,rfl,rfl⟩ | ⟨_,_,_,_,_,hc,_⟩
 ·exact Nat.le_refl _
 ·exact hc
theorem SL.cmax (h:SL w e sz A n c xs):c<=maxLen:=by
 rcases h.at_ with ⟨_,_,rfl⟩ | ⟨_,_,_,_,_,_,hm,_⟩
 ·exact Nat.zero_le _
 ·exact hm
theorem SL.keep (h:SL w e sz A n c xs) (hk:∀a,A=some a->w'.heap[a.block]? = w.heap[a.block]?):SL w' e sz A n c xs:=
 ⟨h.len,h.at_.imp id fun⟨b,o,cur,h1,h2,h3⟩=>⟨b,o,cur,h1,(hk _ h1).trans h2,h3⟩⟩
theorem SL.lt (h:SL w e sz A n c xs) {a:Addr} (ha:A=some a):a.block < w.heap.size:=by
 rcases h.at_ with ⟨h1,_⟩ | ⟨b,o,cur,h1,h2,_⟩
 ·rw[h1]at ha;cases ha
 ·rw[h1]at ha;cases ha
  exact(Array.getElem?_eq_some_iff.1 h2).1
theorem SL.below {B:Nat} (h:SL w e sz A n c xs) (hb:Below B w w') (hB:∀a,A=some a->a.block < B):SL w' e sz A n c xs:=h.keep fun a ha=>hb.block _ (hB a ha)
theorem SL.next (h:SL w e sz A n c xs) (hb:Below w.heap.size w w'):SL w' e sz A n c xs:=h.below hb fun a ha=>h.lt ha
theorem SL.keepF {F:Nat->Prop} (h:SL w e sz A n c xs) (hk:aa F w w') (hF:∀a,A=some a->¬F a.block):SL w' e sz A n c xs:=h.keep fun a ha=>hk.block _ (h.lt ha) (hF a ha)
theorem SL.cell (h:SL w e sz A n c xs) {b o:Nat} (hA:A=some ⟨b,o,none⟩) {j:Nat} (hj:j < n*sz):w.cell? ⟨b,o+j,none⟩=xs[j]?:=by
 rcases h.at_ with ⟨h1,_⟩ | ⟨b',o',cur,h1,h2,_,_,_,h6⟩
 ·rw[h1]at hA;cases hA
 ·rw[h1]at hA;cases hA
  exact((ae.cell (show ae w b e cur from h2) (o+j))).trans (h6 j hj)
theorem SL.some_ (h:SL w e sz A n c xs) (hn:0 < n):∃b o,A=some ⟨b,o,none⟩/\b < w.heap.size:=by
 rcases h.at_ with ⟨_,h1,_⟩ | ⟨b',o',cur,h1,h2,_⟩
 ·omega
 ·exact⟨b',o',h1,(Array.getElem?_eq_some_iff.1 h2).1⟩
theorem SL.frozen (h:SL w e sz A n c xs) {b o:Nat} (hA:A=some ⟨b,o,none⟩) (j:Nat):w.frozen? ⟨b,j,none⟩=false:=by
 rcases h.at_ with ⟨h1,_⟩ | ⟨b',o',cur,h1,h2,_⟩
 ·rw[h1]at hA;cases hA
 ·rw[h1]at hA;cases hA
  exact ae.frozen (show ae w b e cur from h2) j
end
section
variable {P:Program}
theorem sK (w:World) (t tx ty e:TypeId) (i:TypeInfo) (z:Value) (sz bytes:Nat) (ht:P.underlying t=some (.slice e)) (hi:P.info? e=some i) (hz:i.zero=some z) (hsize:i.size=sz) (hby:i.bytes=bytes) (hzs:z.cells.size=sz)
  {A:Option Addr} {n c:Nat} {xs:List Value} (h:SL w e sz A n c xs) (x:Value) (m:Nat) (news:List Value) (hs:Src P sz tx x m news w) (hm:0 < m) (h63:n+m<=maxLen) (hbytes:(n+m)*bytes<=140737488355328) :
  ∃A' c' w',(Builtin.append_ #[t,tx] ty #[.slice A n c,x]).run P w=.ok (.slice A' (n+m) c') w'/\SL w' e sz A' (n+m) c' (xs++news)/\aa (fun k=>∃a,A=some a/\k=a.block) w w'/\(∀a,A'=some a->(∃a',A=some a'/\a.block=a'.block)\/w.heap.size<=a.block):=by
 subst hsize hby;have hlen:(xs++news).length=(n+m)*i.size:=by rw[List.length_append,h.len,hs.newsLen,Nat.add_mul]
 by_cases hroom:n+m<=c
 ·rcases h.at_ with ⟨rfl,rfl,rfl⟩ | ⟨b,o,cur,rfl,h2,h3,h4,h5,h6⟩
  ·omega
  ·have hB:ae w b e cur:=h2;have hle:o+(n+m)*i.size<=cur.size:=ba (Nat.add_le_add_left (Nat.mul_le_mul_right _ hroom) _) h5;have hnl:=hs.newsLen;have hadd:(n+m)*i.size=n*i.size+news.length:=by rw[Nat.add_mul,hnl]
   have hr:=run_append_room_src (P:=P) w t tx ty e i ht hi b o n c x m news hs hroom (fun j hj=>by rw[hB.cell];rw[Array.getElem?_eq_getElem (by omega)];rfl) (fun j _=>hB.frozen _);refine⟨_,_,_,hr,⟨hlen,.inr ⟨b,o,_,rfl,bY news (o+n*i.size) w cur hB,hroom,h4,by rw[bL];exact h5,fun j hj=>?_⟩⟩,gc ⟨_,rfl,rfl⟩ news _ w,fun a ha=>.inl ⟨_,rfl,by cases ha;rfl⟩⟩;by_cases hjn:j < n*i.size
   ·rw[cG news _ cur _ (.inl (by omega)),h6 j hjn,List.getElem?_append_left (by rw[h.len];exact hjn)]
   ·have:=dY news (o+n*i.size) cur (j-n*i.size) (by omega) (by omega);rw[show o+n*i.size+(j-n*i.size)=o+j by omega]at this;rw[this,List.getElem?_append_right (by rw[h.len];omega),h.len]
 ·have hold:(Builtin.firstCells i.size n (.slice A n c)).run P w.drew=.ok xs.toArray w.drew:=by
   rcases h.at_ with ⟨rfl,rfl,rfl⟩ | ⟨b,o,cur,rfl,h2,h3,h4,h5,h6⟩
   ·have:xs=[]:=List.eq_nil_of_length_eq_zero (by rw[h.len];simp);subst this
    exact run_firstCells_none w.drew i.size 0 0 0
   ·refine run_firstCells_some w.drew i.size n ⟨b,o,none⟩ n c xs h.len (fun j u hu=>?_);have hj:j < n*i.size:=by have:=(List.getElem?_eq_some_iff.1 hu).1;rwa [h.len]at this
    rw[Addr.add_lit]
    exact(h.cell rfl hj).trans hu
  have hr:=run_append_grow_src (P:=P) w t tx ty e i z ht hi hz A n c xs hold x m news hs (by omega) (by unfold maxLen at h63;omega) (growslice_fits (by omega) hbytes);have hge:=grownCap_ge w (n+m) c e;have hcm:grownCap w (n+m) c e<=maxLen:=grownCap_le_maxLen w (n+m) c e h63;refine⟨_,_,_,hr,⟨hlen,.inr ⟨w.heap.size,0,_,rfl,heap_alloc_new w.drew _,hge,hcm,?_,fun j hj=>?_⟩⟩,(aa.refl (w:=w)).drew.alloc _,fun a ha=>.inr (by cases ha;exact Nat.le_refl _)⟩
  ·simp only[Array.size_append,List.size_toArray,size_zeroCells,hzs,hlen,Nat.zero_add];rw[<-Nat.add_mul]
   exact Nat.mul_le_mul_right _ (by omega)
  ·rw[Nat.zero_add,Array.getElem?_append_left (by simp only[List.size_toArray];rw[hlen];exact hj)];simp
theorem bB {o:Oper} {a:Act} {K:Act->World->Prop} {Q:Exit->Act->World->Prop} (s x:Operand) (t tx:TypeId) (ho:o.op=.call { callee:=.builtin .append,args:=#[s,x],argTypes:=#[t,tx] })
  (w:World) (e:TypeId) (i:TypeInfo) (z:Value) (sz bytes:Nat) (ht:P.underlying t=some (.slice e)) (hi:P.info? e=some i) (hz:i.zero=some z) (hsize:i.size=sz) (hby:i.bytes=bytes) (hzs:z.cells.size=sz)
  (A:Option Addr) (n c:Nat) (xs:List Value) (hsv:a.eval s=.slice A n c) (h:SL w e sz A n c xs) (xv:Value) (hxv:a.eval x=xv) (m:Nat) (news:List Value) (hs:Src P sz tx xv m news w) (hm:0 < m) (h63:n+m<=maxLen) (hbytes:(n+m)*bytes<=140737488355328)
  (hK:∀A' c' w',SL w' e sz A' (n+m) c' (xs++news)->aa (fun k=>∃a,A=some a/\k=a.block) w w'->(∀a,A'=some a->(∃a',A=some a'/\a.block=a'.block)\/w.heap.size<=a.block)->K (a.put o.dst (.slice A' (n+m) c')) w'):o.wp P a w K Q:=by
 obtain⟨A',c',w',hrun,h1,h2,h3⟩:=sK w t tx o.type e i z sz bytes ht hi hz hsize hby hzs h xv m news hs hm h63 hbytes;unfold Oper.wp execOp;simp only[ho,resolve,invoke,builtin,Sem.run_bind,Sem.run_pure,Result.andThen_ok,List.map_toArray,List.map_cons,List.map_nil,hsv,hxv,hrun]
 exact hK A' c' w' h1 h2 h3
theorem aY {ops:Array Oper} {rest:List Oper} {o:Oper} {a:Act} {Q:Exit->Act->World->Prop} (hgd:o.guard=none) (s x:Operand) (t tx:TypeId) (ho:o.op=.call { callee:=.builtin .append,args:=#[s,x],argTypes:=#[t,tx] })
  (w:World) (e:TypeId) (i:TypeInfo) (z:Value) (sz bytes:Nat) (ht:P.underlying t=some (.slice e)) (hi:P.info? e=some i) (hz:i.zero=some z) (hsize:i.size=sz) (hby:i.bytes=bytes) (hzs:z.cells.size=sz)
  (A:Option Addr) (n c:Nat) (xs:List Value) (hsv:a.eval s=.slice A n c) (h:SL w e sz A n c xs) (xv:Value) (hxv:a.eval x=xv) (m:Nat) (news:List Value) (hs:Src P sz tx xv m news w) (hm:0 < m) (h63:n+m<=maxLen) (hbytes:(n+m)*bytes<=140737488355328)
  (hK:∀A' c' w',SL w' e sz A' (n+m) c' (xs++news)->aa (fun k=>∃a,A=some a/\k=a.block) w w'->(∀a,A'=some a->(∃a',A=some a'/\a.block=a'.block)\/w.heap.size<=a.block)->wpList P ops Q rest (a.put o.dst (.slice A' (n+m) c')) w'):wpList P ops Q (o :: rest) a w:=
 wpList_plain hgd fun K hK'=>bB s x t tx ho w e i z sz bytes ht hi hz hsize hby hzs A n c xs hsv h xv hxv m news hs hm h63 hbytes fun A' c' w' h1 h2 h3=>hK' _ _ (hK A' c' w' h1 h2 h3)
end
theorem dP {α:Type} (f:α->List Value) (sz:Nat) (hf:∀x,(f x).length=sz):∀l:List α,(l.flatMap f).length=l.length*sz
 | []=>by simp
 | x :: r=>by rw[List.flatMap_cons,List.length_append,hf,dP f sz hf r,List.length_cons,Nat.add_mul];omega
theorem bp {α:Type} (f:α->List Value) (sz:Nat) (hf:∀x,(f x).length=sz):∀(l:List α) (k j:Nat) (x:α),l[k]? = some x->j < sz->(l.flatMap f)[k*sz+j]? = (f x)[j]?
 | [],k,j,x,h,_=>by simp at h
 | y :: r,0,j,x,h,hj=>by
  have:y=x:=by simpa using h
  subst this;rw[List.flatMap_cons,Nat.zero_mul,Nat.zero_add,List.getElem?_append_left (by rw[hf];exact hj)]
 | y :: r,k+1,j,x,h,hj=>by
  rw[List.flatMap_cons,List.getElem?_append_right (by rw[hf,Nat.add_mul];omega),hf,show(k+1)*sz+j-sz=k*sz+j by rw[Nat.add_mul];omega]
  exact bp f sz hf r k j x (by simpa using h) hj
end Go.Proofs.YtiiojpnckbglcaaGreat

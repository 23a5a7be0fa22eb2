import Derived.Test.YtiiojpnckbglcaaGreatMGEz
import Derived.Test.YtiiojpnckbglcaaGreatTAz
import Derived.Test.YtiiojpnckbglcaaGreatMY2Az
import Derived.Shelf.SlMaps.Clone
import Derived.Laws.Externs
set_option linter.unusedVariables false
set_option linter.unusedSimpArgs false
namespace Go.Proofs.YtiiojpnckbglcaaGreat
open Go.RowKit
attribute [local go_sem ↓] Go.wp_at_zero Go.wp_at_succ
private theorem ak {P:Program} {ops:Array Oper} {Q:Exit->Act->World->Prop} {md:Region.Mode} {S:World->Prop} {i:Nat} {oi:Oper} {v:Value} {fuel:Nat} {listed l':Array Bool} {a a':Act} {w:World} (hi:ops[i]? = some oi) (hy:YieldsIf P ops S oi v a) (hS:S w)
  (h:wpAnyH P md ops Q S fuel l' a' w) (hl:listed.setIfInBounds i true=l':=by(try simp only[List.setIfInBounds_toArray,List.set_cons_zero,List.set_cons_succ]);rfl) (ha:a.put oi.dst v=a':=by(try simp only[Act.put,List.setIfInBounds_toArray,List.set_cons_zero,List.set_cons_succ]);rfl) (hs:Region.noSelect ops=true:=by kernel_rfl) (hf:Region.free md ops listed i=true:=by kernel_rfl) (hr:(Region.ready md ops listed).contains i=true:=by kernel_rfl)
  (hQ:∀c a w,Q (.panic c) (a.put oi.dst v) w->Q (.panic c) a w:=by exact fun _ _ _ h=>h):wpAnyH P md ops Q S (fuel+1) listed a w:=by subst hl;subst ha;exact wpAnyH_take hi hs hf hr hQ hy hS h
set_option maxRecDepth 100000 in
theorem mV (g:Nat) (S:Nat->Rx) (T:Int) (w:World) (h:CB w g true S T) :
  Calls Tryz.prog 53 #[.pointer (some ⟨g,0,none⟩)] w fun e w'=>e=.returned (.pointer (some ⟨w.heap.size,0,none⟩))/\CB w' w.heap.size true S T/\Below w.heap.size w w':=by
 have HB:=zh (gY g true S T w h)
 have hz:=sQ
 obtain⟨L,hL⟩:=af (dr true S T)
 obtain⟨Z,hZ⟩:∃Z,Z=dr false (fun _=>Rx.zero) 0:=⟨_,rfl⟩
 have HSZ:Hid ((Tryz.prog.info? 137).map (·.size)=some L.size):=zh (by rw[hL,aS];exact sU)
 have HS2:Hid (Z.size=L.size):=zh (by rw[hL,hZ,aS,aS])
 have HO1:Hid (L.all (·.oneCell')=true):=zh (by rw[hL];exact sZ true S T)
 have HK:=zh (show ae w g 137 L from by rw[hL];exact h)
 have HL:=zh hL
 rw[<-hZ]at hz
 clear h hL hZ
 go_enter Tryz.func53,Tryz.ntmps53
 go_wp2_with (first
  | (go_at_call 88;refine(HB.out).mono ?_;rintro e w1 ⟨rfl,rfl⟩)
  | (refine wpList_load_row rfl _ _ rfl g rfl 137 L (0,0) _ HK.out Tryz.underlying137 rfl HSZ.out ?_)
  | (refine wpList_store_row rfl _ _ _ rfl w.heap.size L rfl rfl 137 Z (ae.new w _ _) HSZ.out HS2.out HO1.out ?_))
 go_ret
 refine⟨rfl,?_,ai ((Below.refl _ w).alloc aB _) aB _⟩
 unfold CB
 rw[<-HL.out]
 exact ae.setRow (ae.new w _ _)
end Go.Proofs.YtiiojpnckbglcaaGreat
namespace Go.Proofs.YtiiojpnckbglcaaGreat
open Go.RowKit
theorem eQ (w:World) (g j:Nat) (v:Value):aa (fun k=>k=g) w (w.setCell ⟨g,j,none⟩ v):=(aa.refl (F:=fun k=>k=g)).setCell (p:=⟨g,j,none⟩) rfl _
end Go.Proofs.YtiiojpnckbglcaaGreat
namespace Go.Proofs.YtiiojpnckbglcaaGreat
open Go.RowKit
section
variable {P:Program}
theorem SL.srcN {w:World} {e tx e':TypeId} {sz:Nat} (hk:P.underlying tx=some (.slice e')) {A:Option Addr} {n c:Nat} {xs:List Value} (h:SL w e sz A n c xs) (h1:∀u,u∈xs->u.oneCell'=true):Src P sz tx (.slice A n c) n xs w:=by
 have hl:=h.len
 rcases h.at_ with ⟨rfl,rfl,rfl⟩ | ⟨b,o,cur,rfl,h2,h3,h4,h5,h6⟩
 ·have:xs=[]:=List.eq_nil_of_length_eq_zero (by rw[hl,Nat.zero_mul])
  subst this
  exact Src.ofNil w hk 0
 ·refine Src.ofSlice w hk ⟨b,o,none⟩ n c xs hl (fun j u hu=>?_) h1
  have hj:j < n*sz:=by have:=(List.getElem?_eq_some_iff.1 hu).1;rwa [hl]at this
  rw[Addr.add_lit]
  exact(h.cell rfl hj).trans hu
theorem mh (w:World) (t tx ty e:TypeId) (i:TypeInfo) (ht:P.underlying t=some (.slice e)) (hi:P.info? e=some i) {A:Option Addr} {n c:Nat} {xs:List Value} (h:SL w e i.size A n c xs) (x:Value) (hs:Src P i.size tx x 0 [] w) :
  (Builtin.append_ #[t,tx] ty #[.slice A n c,x]).run P w=.ok (.slice A n c) w:=by
 have hroom:n+0<=c:=by have:=h.le;omega
 cases A with
 | some a=>
  rcases h.at_ with ⟨h1,_⟩ | ⟨b,o,cur,h1,_⟩
  ·cases h1
  ·cases h1
   exact run_append_room_src (P:=P) w t tx ty e i ht hi b o n c x 0 [] hs hroom (fun j hj=>(by cases hj)) (fun j hj=>(by cases hj))
 | none=>
  rcases hs.kind with ⟨e',hk⟩ | hk<;>simp[Builtin.append_,run_underlying ht,run_underlying hk,sizeOf,typeInfo,hi,hs.len,show n<=c from hroom,hs.cells]
theorem mz (w:World) (t tx ty e:TypeId) (i:TypeInfo) (z:Value) (sz bytes:Nat) (ht:P.underlying t=some (.slice e)) (hi:P.info? e=some i) (hz:i.zero=some z) (hsize:i.size=sz) (hby:i.bytes=bytes) (hzs:z.cells.size=sz)
  {A:Option Addr} {n c:Nat} {xs:List Value} (h:SL w e sz A n c xs) (x:Value) (m:Nat) (news:List Value) (hs:Src P sz tx x m news w) (h63:n+m<=maxLen) (hbytes:(n+m)*bytes<=140737488355328) :
  ∃A' c' w',(Builtin.append_ #[t,tx] ty #[.slice A n c,x]).run P w=.ok (.slice A' (n+m) c') w'/\SL w' e sz A' (n+m) c' (xs++news)/\aa (fun k=>∃a,A=some a/\k=a.block) w w'/\(∀a,A'=some a->(∃a',A=some a'/\a.block=a'.block)\/w.heap.size<=a.block):=by
 cases m with
 | succ m=>exact jw w t tx ty e i z sz bytes ht hi hz hsize hby hzs h x (m+1) news hs (by omega) h63 hbytes
 | zero=>
  have:news=[]:=List.eq_nil_of_length_eq_zero (by rw[hs.newsLen,Nat.zero_mul])
  subst this
  subst hsize
  refine⟨A,c,w,mh w t tx ty e i ht hi h x hs,by rw[List.append_nil];exact h,aa.refl,fun a ha=>.inl ⟨a,ha,rfl⟩⟩
theorem dA {ops:Array Oper} {rest:List Oper} {o:Oper} {a:Act} {Q:Exit->Act->World->Prop} (hgd:o.guard=none) (s x:Operand) (t tx:TypeId) (ho:o.op=.call { callee:=.builtin .append,args:=#[s,x],argTypes:=#[t,tx] })
  (w:World) (e:TypeId) (i:TypeInfo) (z:Value) (sz bytes:Nat) (ht:P.underlying t=some (.slice e)) (hi:P.info? e=some i) (hz:i.zero=some z) (hsize:i.size=sz) (hby:i.bytes=bytes) (hzs:z.cells.size=sz)
  (A:Option Addr) (n c:Nat) (xs:List Value) (hsv:a.eval s=.slice A n c) (h:SL w e sz A n c xs) (xv:Value) (hxv:a.eval x=xv) (m:Nat) (news:List Value) (hs:Src P sz tx xv m news w) (h63:n+m<=maxLen) (hbytes:(n+m)*bytes<=140737488355328)
  (hK:∀A' c' w',SL w' e sz A' (n+m) c' (xs++news)->aa (fun k=>∃a,A=some a/\k=a.block) w w'->(∀a,A'=some a->(∃a',A=some a'/\a.block=a'.block)\/w.heap.size<=a.block)->wpList P ops Q rest (a.put o.dst (.slice A' (n+m) c')) w'):wpList P ops Q (o :: rest) a w:=
 wpList_plain hgd fun K hK'=>by
  obtain⟨A',c',w',hrun,h1,h2,h3⟩:=mz w t tx o.type e i z sz bytes ht hi hz hsize hby hzs h xv m news hs h63 hbytes
  unfold Oper.wp execOp
  simp only[ho,resolve,invoke,builtin,Sem.run_bind,Sem.run_pure,Result.andThen_ok,List.map_toArray,List.map_cons,List.map_nil,hsv,hxv,hrun]
  exact hK' _ _ (hK A' c' w' h1 h2 h3)
end
end Go.Proofs.YtiiojpnckbglcaaGreat
namespace Go.Proofs.YtiiojpnckbglcaaGreat
open Go.RowKit
attribute [local go_sem ↓] Go.wp_at_zero Go.wp_at_succ
set_option maxRecDepth 100000 in
set_option maxHeartbeats 2000000 in
theorem mt (b:Nat) (es:Array MapEntry) (clock:Nat) (w:World) (hb:w.heap[b]? = some (.map es clock)) :
  Calls Tryz.prog 52 #[.map (some b)] w fun e w'=>e=.returned (.map (some w.heap.size))/\w'=w.alloc (.map es clock):=by
 have hq:=fun w=>run_eql_map_nil_sl (P:=Tryz.prog) w 85 _ _ (some b) Tryz.underlying85
 go_enter Tryz.func52,Tryz.ntmps52
 go_wp2
 rw[run_callFunc_extern Tryz.func87 (by kernel_rfl) (by kernel_rfl) (by kernel_rfl) (e:=Extern.MapsClone.clone) (by kernel_rfl),run_maps_clone_sl w 85 hb]
 simp only[Result.andThen]
 rw[Oper.upon_value]
 go_wp2
 rw[run_typeAssert_map_sl _ 85 20 _ _ _ Tryz.underlying85]
 simp only[Result.andThen]
 rw[Oper.upon_value]
 go_wp2
 go_ret
 exact⟨rfl,rfl⟩
theorem nX (w:World) (m:Nat) (l:List (Array Value)) (h:UK w m l) :
  Calls Tryz.prog 52 #[.map (some m)] w fun e w'=>e=.returned (.map (some w.heap.size))/\UK w' w.heap.size l/\Below w.heap.size w w':=by
 obtain⟨es,clock,hb,h1,h2⟩:=h
 refine(mt m es clock w hb).mono ?_
 rintro e w' ⟨he,rfl⟩
 exact⟨he,⟨es,clock,World.alloc_heap_new _ _,h1,h2⟩,(Below.refl _ w).alloc aB _⟩
set_option maxRecDepth 100000 in
set_option maxHeartbeats 2000000 in
theorem oC (A:Option Addr) (n c:Nat) (xs:List Value) (w:World) (hn:n<=1000000) (h1:∀u,u∈xs->u.oneCell'=true) (h:SL w 96 2 A n c xs) :
  Calls Tryz.prog 50 #[.slice A n c] w fun e w'=>∃A2 c2,e=.returned (.slice A2 n c2)/\SL w' 96 2 A2 n c2 xs/\(∀a,A2=some a->w.heap.size<=a.block)/\Below w.heap.size w w':=by
 have HS:=zh h
 have HX:=zh h1
 obtain⟨i0,hi,hz0,hz1,hz2⟩:=fV
 have hnil:=Lib.run_eql_slice_nil (P:=Tryz.prog) (t:=88)
 cases A with
 | none=>
  have h0:n=0/\c=0:=by
   rcases h.at_ with ⟨_,h2,h3⟩ | ⟨_,_,_,h2,_⟩
   ·exact⟨h2,h3⟩
   ·cases h2
  obtain⟨rfl,rfl⟩:=h0
  have hx:xs=[]:=List.eq_nil_of_length_eq_zero (by rw[h.len])
  clear h h1
  go_enter Tryz.func50,Tryz.ntmps50
  go_wp2
  go_ret
  exact⟨none,0,rfl,HS.out,fun a ha=>(by cases ha),Below.refl _ _⟩
 | some ad=>
  obtain⟨w0,hw0⟩:=af (w.alloc (.cells #[] 96))
  have hb0:Below w.heap.size w w0:=by rw[hw0];exact(Below.refl _ _).alloc aB _
  have HW0:=zh hw0
  have HE:=zh (show SL w0 96 2 (some ⟨w.heap.size,0,none⟩) 0 0 []from ⟨rfl,.inr ⟨w.heap.size,0,#[],rfl,by rw[hw0];exact ae.new _ _ _,Nat.le_refl _,by unfold maxLen;omega,by simp,fun j hj=>by omega⟩⟩)
  have HSRC:=zh ((h.next hb0).srcN (P:=Tryz.prog) Tryz.underlying88 h1)
  have HB0:=zh hb0
  clear h h1 hb0 hw0
  go_enter Tryz.func50,Tryz.ntmps50
  go_wp2_with (rw[<-HW0.out];refine dA rfl _ _ _ _ rfl w0 96 i0 (.agg #[.slice none 0 0,.int .i64 0]) 2 32 Tryz.underlying88 hi hz0 hz1 hz2 rfl (some ⟨w.heap.size,0,none⟩) 0 0 [] rfl HE.out _ rfl n xs HSRC.out (by unfold maxLen;omega) (by omega) ?_;intro A9 c9 wA hSL hK hA;have HSL:=zh hSL;have HK:=zh hK;have HA:=zh hA;clear hSL hK hA)
  go_ret
  refine⟨A9,c9,by simp,by have:=HSL.out;rw[Nat.zero_add,List.nil_append]at this;exact this,fun a ha=>?_,aa.below HB0.out HK.out (fun k ⟨a,ha,e⟩=>by cases ha;rw[e];exact Nat.le_refl _) HB0.out.size⟩
  rcases HA.out a ha with ⟨a',ha',e⟩ | hge
  ·cases ha';rw[e];exact Nat.le_refl _
  ·exact bj HB0.out.size hge
set_option maxRecDepth 100000 in
set_option maxHeartbeats 2000000 in
theorem oY (A:Option Addr) (n c:Nat) (xs:List Value) (w:World) (hn:n<=1000000) (h1:∀u,u∈xs->u.oneCell'=true) (h:SL w 94 3 A n c xs) :
  Calls Tryz.prog 51 #[.slice A n c] w fun e w'=>∃A2 c2,e=.returned (.slice A2 n c2)/\SL w' 94 3 A2 n c2 xs/\(∀a,A2=some a->w.heap.size<=a.block)/\Below w.heap.size w w':=by
 have HS:=zh h
 have HX:=zh h1
 obtain⟨i0,hi,hz0,hz1,hz2⟩:=ew
 have hnil:=Lib.run_eql_slice_nil (P:=Tryz.prog) (t:=89)
 cases A with
 | none=>
  have h0:n=0/\c=0:=by
   rcases h.at_ with ⟨_,h2,h3⟩ | ⟨_,_,_,h2,_⟩
   ·exact⟨h2,h3⟩
   ·cases h2
  obtain⟨rfl,rfl⟩:=h0
  have hx:xs=[]:=List.eq_nil_of_length_eq_zero (by rw[h.len])
  clear h h1
  go_enter Tryz.func51,Tryz.ntmps51
  go_wp2
  go_ret
  exact⟨none,0,rfl,HS.out,fun a ha=>(by cases ha),Below.refl _ _⟩
 | some ad=>
  obtain⟨w0,hw0⟩:=af (w.alloc (.cells #[] 94))
  have hb0:Below w.heap.size w w0:=by rw[hw0];exact(Below.refl _ _).alloc aB _
  have HW0:=zh hw0
  have HE:=zh (show SL w0 94 3 (some ⟨w.heap.size,0,none⟩) 0 0 []from ⟨rfl,.inr ⟨w.heap.size,0,#[],rfl,by rw[hw0];exact ae.new _ _ _,Nat.le_refl _,by unfold maxLen;omega,by simp,fun j hj=>by omega⟩⟩)
  have HSRC:=zh ((h.next hb0).srcN (P:=Tryz.prog) Tryz.underlying89 h1)
  have HB0:=zh hb0
  clear h h1 hb0 hw0
  go_enter Tryz.func51,Tryz.ntmps51
  go_wp2_with (rw[<-HW0.out];refine dA rfl _ _ _ _ rfl w0 94 i0 (.agg #[.int .u32 0,.slice none 0 0,.bool false]) 3 40 Tryz.underlying89 hi hz0 hz1 hz2 rfl (some ⟨w.heap.size,0,none⟩) 0 0 [] rfl HE.out _ rfl n xs HSRC.out (by unfold maxLen;omega) (by omega) ?_;intro A9 c9 wA hSL hK hA;have HSL:=zh hSL;have HK:=zh hK;have HA:=zh hA;clear hSL hK hA)
  go_ret
  refine⟨A9,c9,by simp,by have:=HSL.out;rw[Nat.zero_add,List.nil_append]at this;exact this,fun a ha=>?_,aa.below HB0.out HK.out (fun k ⟨a,ha,e⟩=>by cases ha;rw[e];exact Nat.le_refl _) HB0.out.size⟩
  rcases HA.out a ha with ⟨a',ha',e⟩ | hge
  ·cases ha';rw[e];exact Nat.le_refl _
  ·exact bj HB0.out.size hge
theorem oX (cb:Nat) (o:Obj) (m:Int) (hc:bN o m) (w:World) (ho:w.heap[cb]? = some o):Calls Tryz.prog 53 #[.pointer (some ⟨cb,0,none⟩)] w fun e w'=>e=.returned (.pointer (some ⟨w.heap.size,0,none⟩))/\w'.heap[w.heap.size]? = some o/\Below w.heap.size w w':=by
 obtain⟨e1,_⟩:=kJ hc
 have hB:CB w cb true (cW o).1 (cW o).2:=by
  unfold CB
  show w.heap[cb]? = some (dx (cW o).1 (cW o).2)
  rw[<-e1]
  exact ho
 refine(mV cb _ _ w hB).mono ?_
 rintro e w' ⟨he,hk,hb⟩
 exact⟨he,by rw[e1];exact hk,hb⟩
section
variable {C:Array Value} {made:Bool} {now next:Int} {q p:Value} {ub cb:Nat}
theorem sV (hC:C.size=39) (m:Nat):(bI C made now next q p ub cb).setIfInBounds 44 (.map (some m))=bI C made now next q p m cb:=dZ hC 5 _
theorem tn (hC:C.size=39) (m:Nat):(bI C made now next q p ub cb).setIfInBounds 45 (.pointer (some ⟨m,0,none⟩))=bI C made now next q p ub m:=dZ hC 6 _
end
theorem tj:(Tryz.prog.info? 91).map (·.size)=some 46:=by kernel_rfl
theorem qJ (c:aP) (now next:Int) (qA:Option Addr) (qn qc:Nat) (pA:Option Addr) (pn pc:Nat) (ub cb:Nat):(bI c.arr true now next (.slice qA qn qc) (.slice pA pn pc) ub cb).all (·.oneCell')=true:=by
 unfold bI
 rw[Array.all_append,c.arr_one]
 simp[Value.oneCell']
def sy (s:TS) (R:Nat->Prop) (w:World) (e:Ending) (w':World):Prop:=
 ∃g2 W2,e=.returned (.pointer (some ⟨g2,0,none⟩))/\bC w' g2 s W2 R/\(∀k,W2 k->w.heap.size<=k/\k < w'.heap.size)/\Below w.heap.size w w'
theorem oT (l:List WE):∀u,u∈l.flatMap WE.cells->u.oneCell'=true:=fun u hu=>by
 obtain⟨e,_,hc⟩:=List.mem_flatMap.1 hu
 simp only[WE.cells,List.mem_cons,List.not_mem_nil,or_false]at hc
 rcases hc with rfl | rfl<;>rfl
theorem ox (l:List PE):∀u,u∈l.flatMap PE.cells->u.oneCell'=true:=fun u hu=>by
 obtain⟨e,_,hc⟩:=List.mem_flatMap.1 hu
 simp only[PE.cells,List.mem_cons,List.not_mem_nil,or_false]at hc
 rcases hc with rfl | rfl | rfl<;>rfl
theorem kX {w V:World} {g:Nat} {s:TS} {W R:Nat->Prop} {qA:Option Addr} {qc:Nat} {lq:List WE} {pA:Option Addr} {pc:Nat} {lp:List PE} {ub cb g2:Nat} {qA2:Option Addr} {qc2:Nat} {pA2:Option Addr} {pc2 u2 x2:Nat} (h:ba w g s W R qA qc lq pA pc lp ub cb) (hb:Below w.heap.size w V)
  (hB:ae V g2 91 (bI s.C.arr true s.now s.next (.slice qA2 lq.length qc2) (.slice pA2 lp.length pc2) u2 x2)) (hQ:SL V 96 2 qA2 lq.length qc2 (lq.flatMap WE.cells)) (hP:SL V 94 3 pA2 lp.length pc2 (lp.flatMap PE.cells)) (hU:UK V u2 s.used) (hX:V.heap[x2]? = some s.comp)
  (h1:w.heap.size<=g2) (h2:g2 < x2) (h3:w.heap.size<=u2) (h4:u2 < x2) (h5:∀a,qA2=some a->w.heap.size<=a.block/\a.block < x2) (h6:∀a,pA2=some a->w.heap.size<=a.block/\a.block < x2) :
  ∃W2,bC V g2 s W2 R/\(∀k,W2 k->w.heap.size<=k/\k < V.heap.size):=by
 have hxl:x2 < V.heap.size:=(Array.getElem?_eq_some_iff.1 hX).1
 have hw:∀k,(k=g2\/k=u2\/k=x2\/(∃a,qA2=some a/\k=a.block)\/∃a,pA2=some a/\k=a.block)->w.heap.size<=k/\k < V.heap.size:=fun k hk=>by
  rcases hk with h | h | h | ⟨a,ha,h⟩ | ⟨a,ha,h⟩
  ·omega
  ·omega
  ·omega
  ·have:=h5 a ha;omega
  ·have:=h6 a ha;omega
 have hv:=h.below hb
 exact⟨fun k=>k=g2\/k=u2\/k=x2\/(∃a,qA2=some a/\k=a.block)\/∃a,pA2=some a/\k=a.block,⟨qA2,qc2,lq,pA2,pc2,lp,u2,x2,
  hB,h.qv,h.pv,hQ,hP,hU,hX,hv.qe,hv.pe,h.pr,.inl rfl,.inr (.inl rfl),.inr (.inr (.inl rfl)),fun a ha=>.inr (.inr (.inr (.inl ⟨a,ha,rfl⟩))),fun a ha=>.inr (.inr (.inr (.inr ⟨a,ha,rfl⟩))),by omega,by omega,fun a ha e=>by have:=h5 a ha;omega,fun a ha e=>by have:=h6 a ha;omega,
  fun k hk hr=>by have:=(hw k hk).1;have:=h.rin k hr;omega,fun k hk=>(hw k hk).2,fun k hk=>bg (h.rin k hk) hb.size,h.now0,h.next0⟩,hw⟩
set_option maxRecDepth 100000 in
set_option maxHeartbeats 3200000 in
theorem qM (g:Nat) (s:TS) (W R:Nat->Prop) (w:World) (h0:bC w g s W R) (m:Int) (hcp:bN s.comp m) (hnl:s.P.length<=1000000/\s.Q.length<=1000000) :
  Calls Tryz.prog 21 #[.pointer (some ⟨g,0,none⟩)] w (sy s R w):=by
 have HMD:=zh (di g s W R w h0)
 obtain⟨qA,qc,lq,pA,pc,lp,ub,eb,h⟩:=h0
 have HT:=zh h
 have HCS:=zh s.C.arr_size
 have HLQ:Hid (lq.length<=1000000):=zh (by have:=congrArg List.length h.qv;rw[List.length_map]at this;omega)
 have HLP:Hid (lp.length<=1000000):=zh (by have:=congrArg List.length h.pv;rw[List.length_map]at this;omega)
 obtain⟨QN,hqn⟩:=af lq.length
 obtain⟨PN,hpn⟩:=af lp.length
 have HQN:=zh hqn
 have HPN:=zh hpn
 obtain⟨L,hL⟩:=af (bI s.C.arr true s.now s.next (.slice qA QN qc) (.slice pA PN pc) ub eb)
 have HK:Hid (ae w g 91 L):=zh (by rw[hL,hqn,hpn];exact h.blk)
 have HLS:Hid (L.size=46):=zh (by rw[hL];exact dU s.C.arr_size)
 have HSZ:Hid ((Tryz.prog.info? 91).map (·.size)=some L.size):=zh (by rw[HLS.out];exact tj)
 have HO1:Hid (L.all (·.oneCell')=true):=zh (by rw[hL];exact qJ _ _ _ _ _ _ _ _ _ _ _)
 have HL:=zh hL
 have HXO:=zh hcp
 have HU:=zh Tryz.underlying91
 clear h hL hqn hpn hcp hnl
 go_enter Tryz.func21,Tryz.ntmps21
 go_upto_region 4 with (first
  | (go_at_call 49;refine(HMD.out).mono ?_;rintro e w1 ⟨rfl,rfl⟩)
  | (refine wpList_load_row rfl _ _ rfl g rfl 91 L (0,0) _ HK.out HU.out rfl HSZ.out ?_)
  | (refine wpList_store_row rfl _ _ _ rfl w.heap.size L rfl rfl 91 _ (ae.new w _ _) HSZ.out (by rw[HLS.out];rfl) HO1.out ?_))
 try simp only[Act.put]
 obtain⟨cb,hcb⟩:=af w.heap.size
 refine ah (fun V=>ae V cb 91 L/\Below w.heap.size w V) ⟨by rw[hcb];exact setRow_heap _ _ _ L 91 (0,0) (ae.new w _ _),ai ((Below.refl _ w).alloc aB _) aB _⟩ ?_
 rintro V0 ⟨b1,b2⟩
 have B1:=zh b1
 have B2:=zh b2
 have HCB:=zh hcb
 rw[<-hcb]
 have T0:=zh (HT.out.below b2)
 clear b1 b2 hcb
 have hcn:cb ≠ g/\(∀k,k=cb->¬W k/\¬R k):=by
  have h1:=HCB.out
  refine⟨fun e=>?_,fun k hk=>⟨fun hw=>?_,fun hr=>?_⟩⟩
  ·have:=HT.out.win _ HT.out.wg;omega
  ·have:=HT.out.win _ hw;omega
  ·have:=HT.out.rin _ hr;omega
 have HCN:=zh hcn
 have HG:=zh (show ∀W',aa (fun k=>k=cb) V0 W'->W'.cell? ⟨g,42,none⟩=some (.slice qA QN qc)/\W'.cell? ⟨g,43,none⟩=some (.slice pA PN pc)/\W'.cell? ⟨g,44,none⟩=some (.map (some ub))/\W'.cell? ⟨g,45,none⟩=some (.pointer (some ⟨eb,0,none⟩))from fun W' hW=>by
  have h:=T0.out.keepF hW HCN.out.2
  rw[HQN.out,HPN.out]
  exact⟨h.cq,h.cp,h.cu,h.cc⟩)
 clear hcn
 refine wp_region_held_drew (S:=fun w'=>aa (fun k=>k=cb) V0 w') (by kernel_rfl) (aa.refl.drew) (fun hHeld=>?_)
 obtain⟨v0,hv0⟩:=af V0.drew
 have hb0:Below V0.heap.size V0 v0:=by rw[hv0];exact(Below.refl _ _).drew
 rw[<-hv0]
 rw[<-hv0]at hHeld
 clear hv0
 refine ak (i:=0) (oi:=⟨some 9,_,_,_,_,_⟩) (v:=.pointer (some ⟨g,0,none⟩)) rfl (Or.inl ⟨by rfl,fun W hW=>(by rfl)⟩) (by assumption) ?_
 refine ak (i:=1) (oi:=⟨some 10,_,_,_,_,_⟩) (v:=.pointer (some ⟨g,0,none⟩)) rfl (Or.inl ⟨by rfl,fun W hW=>(by go_simp)⟩) (by assumption) ?_
 refine ak (i:=2) (oi:=⟨some 11,_,_,_,_,_⟩) (v:=.pointer (some ⟨g,42,none⟩)) rfl (Or.inl ⟨by rfl,fun W hW=>(by go_simp)⟩) (by assumption) ?_
 refine ak (i:=3) (oi:=⟨some 12,_,_,_,_,_⟩) (v:=.slice qA QN qc) rfl (Or.inl ⟨by rfl,fun W hW=>(by have h:=(HG.out W hW).1;go_simp)⟩) (by assumption) ?_
 refine ak (i:=5) (oi:=⟨some 14,_,_,_,_,_⟩) (v:=.pointer (some ⟨g,0,none⟩)) rfl (Or.inl ⟨by rfl,fun W hW=>(by rfl)⟩) (by assumption) ?_
 refine ak (i:=6) (oi:=⟨some 15,_,_,_,_,_⟩) (v:=.pointer (some ⟨g,0,none⟩)) rfl (Or.inl ⟨by rfl,fun W hW=>(by go_simp)⟩) (by assumption) ?_
 refine ak (i:=7) (oi:=⟨some 16,_,_,_,_,_⟩) (v:=.pointer (some ⟨g,43,none⟩)) rfl (Or.inl ⟨by rfl,fun W hW=>(by go_simp)⟩) (by assumption) ?_
 refine ak (i:=8) (oi:=⟨some 17,_,_,_,_,_⟩) (v:=.slice pA PN pc) rfl (Or.inl ⟨by rfl,fun W hW=>(by have h:=(HG.out W hW).2.1;go_simp)⟩) (by assumption) ?_
 refine ak (i:=10) (oi:=⟨some 19,_,_,_,_,_⟩) (v:=.pointer (some ⟨g,0,none⟩)) rfl (Or.inl ⟨by rfl,fun W hW=>(by rfl)⟩) (by assumption) ?_
 refine ak (i:=11) (oi:=⟨some 20,_,_,_,_,_⟩) (v:=.pointer (some ⟨g,0,none⟩)) rfl (Or.inl ⟨by rfl,fun W hW=>(by go_simp)⟩) (by assumption) ?_
 refine ak (i:=12) (oi:=⟨some 21,_,_,_,_,_⟩) (v:=.pointer (some ⟨g,44,none⟩)) rfl (Or.inl ⟨by rfl,fun W hW=>(by go_simp)⟩) (by assumption) ?_
 refine ak (i:=13) (oi:=⟨some 22,_,_,_,_,_⟩) (v:=.map (some ub)) rfl (Or.inl ⟨by rfl,fun W hW=>(by have h:=(HG.out W hW).2.2.1;go_simp)⟩) (by assumption) ?_
 refine ak (i:=15) (oi:=⟨some 24,_,_,_,_,_⟩) (v:=.pointer (some ⟨g,0,none⟩)) rfl (Or.inl ⟨by rfl,fun W hW=>(by rfl)⟩) (by assumption) ?_
 refine ak (i:=16) (oi:=⟨some 25,_,_,_,_,_⟩) (v:=.pointer (some ⟨g,0,none⟩)) rfl (Or.inl ⟨by rfl,fun W hW=>(by go_simp)⟩) (by assumption) ?_
 refine ak (i:=17) (oi:=⟨some 26,_,_,_,_,_⟩) (v:=.pointer (some ⟨g,45,none⟩)) rfl (Or.inl ⟨by rfl,fun W hW=>(by go_simp)⟩) (by assumption) ?_
 refine ak (i:=18) (oi:=⟨some 27,_,_,_,_,_⟩) (v:=.pointer (some ⟨eb,0,none⟩)) rfl (Or.inl ⟨by rfl,fun W hW=>(by have h:=(HG.out W hW).2.2.2;go_simp)⟩) (by assumption) ?_
 refine wpAnyH_ready (rs:=[4]) (by kernel_rfl) (by simp) ?_
 refine AllReadyH.cons (o:=⟨some 13,_,_,_,_,_⟩) rfl (fun K hK=>?_) AllReadyH.nil
 rw[if_pos (by rfl)]
 go_simp
 refine(oC qA QN qc _ _ (by rw[HQN.out];exact HLQ.out) (oT lq) (by rw[HQN.out];exact(T0.out.below hb0).q)).mono ?_
 rintro e v1 ⟨qA2,qc2,rfl,hq1,hqa,hbk⟩
 dsimp only
 have hb1:=hb0.trans (hbk.mono hb0.size)
 refine hK.out _ _ (hHeld.trans (aa.of_below hbk) (fun _ _ h=>h)) (fun hHeld=>?_)
 clear hK K hbk
 try simp only[Act.put,List.setIfInBounds_toArray,List.set_cons_zero,List.set_cons_succ]
 refine wpAnyH_ready (rs:=[9]) (by kernel_rfl) (by simp) ?_
 refine AllReadyH.cons (o:=⟨some 18,_,_,_,_,_⟩) rfl (fun K hK=>?_) AllReadyH.nil
 rw[if_pos (by rfl)]
 go_simp
 refine(oY pA PN pc _ _ (by rw[HPN.out];exact HLP.out) (ox lp) (by rw[HPN.out];exact(T0.out.below hb1).p)).mono ?_
 rintro e v2 ⟨pA2,pc2,rfl,hp1,hpa,hbk⟩
 dsimp only
 have hb2:=hb1.trans (hbk.mono hb1.size)
 have hq2:=hq1.next hbk
 refine hK.out _ _ (hHeld.trans (aa.of_below hbk) (fun _ _ h=>h)) (fun hHeld=>?_)
 clear hK K hbk
 try simp only[Act.put,List.setIfInBounds_toArray,List.set_cons_zero,List.set_cons_succ]
 refine wpAnyH_ready (rs:=[14]) (by kernel_rfl) (by simp) ?_
 refine AllReadyH.cons (o:=⟨some 23,_,_,_,_,_⟩) rfl (fun K hK=>?_) AllReadyH.nil
 rw[if_pos (by rfl)]
 go_simp
 refine(nX _ ub s.used (T0.out.below hb2).u).mono ?_
 rintro e v3 ⟨rfl,hu1,hbk⟩
 dsimp only
 obtain⟨u2,hu2⟩:=af v2.heap.size
 rw[<-hu2]at hu1 ⊢
 have HU2:=zh hu2
 clear hu2
 have hb3:=hb2.trans (hbk.mono hb2.size)
 have hq3:=hq2.next hbk
 have hp3:=hp1.next hbk
 have hlt3:u2 < v3.heap.size:=hu1.lt
 refine hK.out _ _ (hHeld.trans (aa.of_below hbk) (fun _ _ h=>h)) (fun hHeld=>?_)
 clear hK K hbk
 try simp only[Act.put,List.setIfInBounds_toArray,List.set_cons_zero,List.set_cons_succ]
 refine wpAnyH_ready (rs:=[19]) (by kernel_rfl) (by simp) ?_
 refine AllReadyH.cons (o:=⟨some 28,_,_,_,_,_⟩) rfl (fun K hK=>?_) AllReadyH.nil
 rw[if_pos (by rfl)]
 go_simp
 refine(oX eb s.comp m HXO.out _ (T0.out.below hb3).k).mono ?_
 rintro e v4 ⟨rfl,hx1,hbk⟩
 dsimp only
 obtain⟨x2,hx2⟩:=af v3.heap.size
 rw[<-hx2]at hx1 ⊢
 have HX2:=zh hx2
 clear hx2
 have hb4:=hb3.trans (hbk.mono hb3.size)
 have hq4:=hq3.next hbk
 have hp4:=hp3.next hbk
 have hu4:=hu1.keep (hbk.block _ hlt3)
 have hlt4:x2 < v4.heap.size:=(Array.getElem?_eq_some_iff.1 hx1).1
 have hC4:=B1.out.below hb4 B1.out.lt
 refine hK.out _ _ (hHeld.trans (aa.of_below hbk) (fun _ _ h=>h)) (fun hHeld=>?_)
 clear hK K hbk
 try simp only[Act.put,List.setIfInBounds_toArray,List.set_cons_zero,List.set_cons_succ]
 refine ak (i:=20) (oi:=⟨some 29,_,_,_,_,_⟩) (v:=.pointer (some ⟨cb,42,none⟩)) rfl (Or.inl ⟨by rfl,fun W hW=>(by go_simp)⟩) (by assumption) ?_
 refine wpAnyH_ready (rs:=[21]) (by kernel_rfl) (by simp) ?_
 refine AllReadyH.cons (o:=⟨none,_,_,_,_,_⟩) rfl (fun K hK=>?_) AllReadyH.nil
 rw[if_pos (by rfl)]
 go_simp
 have c0:=hC4.cell 42
 rw[Array.getElem?_eq_getElem (by rw[HLS.out];decide)]at c0
 have f0:=hC4.frozen 42
 try go_simp
 have hk5:=eQ v4 cb 42 (.slice qA2 QN qc2)
 have hC5:=hC4.set_ 42 (.slice qA2 QN qc2)
 obtain⟨v5,hv⟩:∃v,v=v4.setCell ⟨cb,42,none⟩ (.slice qA2 QN qc2):=⟨_,rfl⟩
 rw[<-hv]at hk5 hC5 ⊢
 clear hv c0 f0
 refine hK.out _ _ (hHeld.trans hk5 (fun _ _ h=>h)) (fun hHeld=>?_)
 clear hK K
 try simp only[Act.put,List.setIfInBounds_toArray,List.set_cons_zero,List.set_cons_succ]
 refine ak (i:=22) (oi:=⟨some 30,_,_,_,_,_⟩) (v:=.pointer (some ⟨cb,43,none⟩)) rfl (Or.inl ⟨by rfl,fun W hW=>(by go_simp)⟩) (by assumption) ?_
 refine wpAnyH_ready (rs:=[23]) (by kernel_rfl) (by simp) ?_
 refine AllReadyH.cons (o:=⟨none,_,_,_,_,_⟩) rfl (fun K hK=>?_) AllReadyH.nil
 rw[if_pos (by rfl)]
 go_simp
 have c0:=hC5.cell 43
 rw[Array.getElem?_eq_getElem (by rw[Array.size_setIfInBounds,HLS.out];decide)]at c0
 have f0:=hC5.frozen 43
 try go_simp
 have hk6:=eQ v5 cb 43 (.slice pA2 PN pc2)
 have hC6:=hC5.set_ 43 (.slice pA2 PN pc2)
 obtain⟨v6,hv⟩:∃v,v=v5.setCell ⟨cb,43,none⟩ (.slice pA2 PN pc2):=⟨_,rfl⟩
 rw[<-hv]at hk6 hC6 ⊢
 clear hv c0 f0
 refine hK.out _ _ (hHeld.trans hk6 (fun _ _ h=>h)) (fun hHeld=>?_)
 clear hK K
 try simp only[Act.put,List.setIfInBounds_toArray,List.set_cons_zero,List.set_cons_succ]
 refine ak (i:=24) (oi:=⟨some 31,_,_,_,_,_⟩) (v:=.pointer (some ⟨cb,44,none⟩)) rfl (Or.inl ⟨by rfl,fun W hW=>(by go_simp)⟩) (by assumption) ?_
 refine wpAnyH_ready (rs:=[25]) (by kernel_rfl) (by simp) ?_
 refine AllReadyH.cons (o:=⟨none,_,_,_,_,_⟩) rfl (fun K hK=>?_) AllReadyH.nil
 rw[if_pos (by rfl)]
 go_simp
 have c0:=hC6.cell 44
 rw[Array.getElem?_eq_getElem (by rw[Array.size_setIfInBounds,Array.size_setIfInBounds,HLS.out];decide)]at c0
 have f0:=hC6.frozen 44
 try go_simp
 have hk7:=eQ v6 cb 44 (.map (some u2))
 have hC7:=hC6.set_ 44 (.map (some u2))
 obtain⟨v7,hv⟩:∃v,v=v6.setCell ⟨cb,44,none⟩ (.map (some u2)):=⟨_,rfl⟩
 rw[<-hv]at hk7 hC7 ⊢
 clear hv c0 f0
 refine hK.out _ _ (hHeld.trans hk7 (fun _ _ h=>h)) (fun hHeld=>?_)
 clear hK K
 try simp only[Act.put,List.setIfInBounds_toArray,List.set_cons_zero,List.set_cons_succ]
 refine ak (i:=26) (oi:=⟨some 32,_,_,_,_,_⟩) (v:=.pointer (some ⟨cb,45,none⟩)) rfl (Or.inl ⟨by rfl,fun W hW=>(by go_simp)⟩) (by assumption) ?_
 refine wpAnyH_ready (rs:=[27]) (by kernel_rfl) (by simp) ?_
 refine AllReadyH.cons (o:=⟨none,_,_,_,_,_⟩) rfl (fun K hK=>?_) AllReadyH.nil
 rw[if_pos (by rfl)]
 go_simp
 have c0:=hC7.cell 45
 rw[Array.getElem?_eq_getElem (by rw[Array.size_setIfInBounds,Array.size_setIfInBounds,Array.size_setIfInBounds,HLS.out];decide)]at c0
 have f0:=hC7.frozen 45
 try go_simp
 have hk8:=eQ v7 cb 45 (.pointer (some ⟨x2,0,none⟩))
 have hC8:=hC7.set_ 45 (.pointer (some ⟨x2,0,none⟩))
 obtain⟨v8,hv⟩:∃v,v=v7.setCell ⟨cb,45,none⟩ (.pointer (some ⟨x2,0,none⟩)):=⟨_,rfl⟩
 rw[<-hv]at hk8 hC8 ⊢
 clear hv c0 f0
 refine hK.out _ _ (hHeld.trans hk8 (fun _ _ h=>h)) (fun hHeld=>?_)
 clear hK K
 try simp only[Act.put,List.setIfInBounds_toArray,List.set_cons_zero,List.set_cons_succ]
 refine wpAnyH_done (by kernel_rfl) ?_ _
 have hk48:aa (fun k=>k=cb) v4 v8:=((hk5.trans hk6 (fun _ _ h=>h)).trans hk7 (fun _ _ h=>h)).trans hk8 (fun _ _ h=>h)
 rw[HL.out,qY HCS.out,qK HCS.out,sV HCS.out,tn HCS.out]at hC8
 have hbl:=B1.out.lt
 have hs0:=hb0.size
 have hs1:=hb1.size
 have hs2:=hb2.size
 have hs3:=hb3.size
 have hw0:=HCB.out
 have hw2:=HU2.out
 have hw3:=HX2.out
 have hs8:=hk48.size
 have hbv:=B2.out.size
 have hbw:=aa.below B2.out hHeld (fun k hk=>by omega) B2.out.size
 have hqb:∀a,qA2=some a->w.heap.size<=a.block/\a.block < x2/\a.block ≠ cb:=fun a ha=>by
  have g1:=hqa a ha
  obtain⟨cur,hh⟩:=hq3.obj ha
  have g2:=(Array.getElem?_eq_some_iff.1 hh).1
  omega
 have hpb:∀a,pA2=some a->w.heap.size<=a.block/\a.block < x2/\a.block ≠ cb:=fun a ha=>by
  have g1:=hpa a ha
  obtain⟨cur,hh⟩:=hp3.obj ha
  have g2:=(Array.getElem?_eq_some_iff.1 hh).1
  omega
 have hq8:=hq4.keepF hk48 (fun a ha e=>(hqb a ha).2.2 e)
 have hp8:=hp4.keepF hk48 (fun a ha e=>(hpb a ha).2.2 e)
 rw[HQN.out]at hC8 hq8
 rw[HPN.out]at hC8 hp8
 obtain⟨W2,hfin,hWW⟩:=kX HT.out hbw hC8 hq8 hp8 (hu4.keep (hk48.block _ (by omega) (by omega))) ((hk48.block _ hlt4 (by omega)).trans hx1) (by omega) (by omega) (by omega) (by omega) (fun a ha=>⟨(hqb a ha).1,(hqb a ha).2.1⟩) (fun a ha=>⟨(hpb a ha).1,(hpb a ha).2.1⟩)
 have HF:=zh (show sy s R w (.returned (.pointer (some ⟨cb,0,none⟩))) v8 from ⟨cb,W2,rfl,hfin,hWW,hbw⟩)
 clear hfin hWW hw0 hw2 hw3 hbw hbv hk48 hk5 hk6 hk7 hk8 hC4 hC5 hC6 hC7 hC8 hq1 hq2 hq3 hq4 hq8 hp1 hp3 hp4 hp8 hqa hpa hqb hpb hu1 hu4 hx1 hb0 hb1 hb2 hb3 hb4 hHeld
 go_wp2
 go_ret
 exact HF.out
end Go.Proofs.YtiiojpnckbglcaaGreat

import Derived.Test.YtnadmdadcpemnaaGreatMDMq
import Derived.Test.YtnadmdadcpemnaaGreatMTBq
import Derived.Defers
import Derived.DefersIn
import Derived.Recover
import Derived.RecoverIn
import Derived.Deep.RegionHeld3
set_option maxRecDepth 100000
set_option maxHeartbeats 6400000
namespace Go.Proofs.YtnadmdadcpemnaaGreat
set_option linter.unusedVariables false
set_option linter.unusedSimpArgs false
open Go.RowKit
attribute [local go_sem] Oper.semAt_some
theorem post_S {P:Program} {fn:Func} {c₀:Frame} {u':FrameMode} {cs:List Frame} {X:World} {e:Exit} {a:Act} {w1:World} (hq:bodyPost P fn (fun en w'=>en=.returned (.tuple #[])/\w'=X) e a w1) :
  bodyPostS P fn c₀ cs (fun en u w'=>en=.returned (.tuple #[])/\u=u'/\w'=X) e a ({ c₀ with mode:=u' } :: cs) w1:=by
 cases e with
 | normal=>obtain⟨hd,v,hr,h1,h2⟩:=hq;exact⟨hd,_,rfl,v,hr,h1,rfl,h2⟩
 | ret=>obtain⟨hd,v,hr,h1,h2⟩:=hq;exact⟨hd,_,rfl,v,hr,h1,rfl,h2⟩
 | panic c=>obtain⟨hd,h1,h2⟩:=hq;cases h1
 | outgrown=>obtain⟨h1,h2⟩:=hq;cases h1
 | _=>exact hq.elim
theorem recv1_caught (p:Addr) (x e:Int) (older:List PanicEntry) (w:World) (hc:w.cell? p=some (.int .i64 x)) (hz:w.frozen? p=false) :
  CallsDIn Fence.wide 8 Tryz.prog 32 #[.pointer (some p)] (.panicking ({ v:=.iface 31 (.int .i64 e),recovered:=false } :: older)) w fun en u' w'=>
   en=.returned (.tuple #[])/\u'=.panicking ({ v:=.iface 31 (.int .i64 e),recovered:=true } :: older)/\w'=w.setCell p (.int .i64 e):=by
 have hta:∀X:World,(Instr.typeAssert (.iface 31 (.int .i64 e)) 20 31 false).run Tryz.prog X=.ok (.int .i64 e) X:=fun X=>by kernel_rfl
 refine callsDIn_of_wpSIn Tryz.func32 rfl trivial fun c₀ cs hu=>?_;simp only[Tryz.ntmps32,List.size_toArray,List.length_cons,List.length_nil,Nat.reduceAdd,Nat.reduceSub,Array.replicate_succ,Array.replicate_zero,List.push_toArray,List.append_toArray,List.nil_append,List.cons_append];apply wpSIn_seq;apply wpSIn_region;simp[wpOpsSIn,go_sem,recoverD,hu,Exit.thenS];refine wpSIn_of_wpIn rfl (wpIn_wide.2 (wp_mono (Q:=bodyPost Tryz.prog Tryz.f32 (fun en w'=>en=.returned (.tuple #[])/\w'=w.setCell p (.int .i64 e))) ?_ ?_));rotate_left
 ·exact fun e a w1 hq=>post_S hq
 have HU:=zh hu;clear hu;go_wp2;go_end0
 exact⟨rfl,rfl⟩
theorem recv1_idle (p:Addr) (w:World) :
  CallsDIn Fence.wide 8 Tryz.prog 32 #[.pointer (some p)] .returning w fun e u' w'=>e=.returned (.tuple #[])/\u'=.returning/\w'=w:=by
 refine callsDIn_of_wpSIn Tryz.func32 rfl trivial fun c₀ cs hu=>?_;simp only[Tryz.ntmps32,List.size_toArray,List.length_cons,List.length_nil,Nat.reduceAdd,Nat.reduceSub,Array.replicate_succ,Array.replicate_zero,List.push_toArray,List.append_toArray,List.nil_append,List.cons_append];apply wpSIn_seq;apply wpSIn_region;simp[wpOpsSIn,go_sem,recoverD,hu,Exit.thenS];refine wpSIn_of_wpIn rfl (wpIn_wide.2 (wp_mono (Q:=bodyPost Tryz.prog Tryz.f32 (fun en w'=>en=.returned (.tuple #[])/\w'=w)) ?_ ?_));rotate_left
 ·have hu2:({ c₀ with mode:=.returning }:Frame)=c₀:=by rw[<-hu]
  intro e a w1 hq;have:=post_S (c₀:=c₀) (cs:=cs) (u':=.returning) hq
  rwa [hu2]at this
 have HU:=zh hu;clear hu;go_wp2;go_end0
 exact⟨rfl,rfl⟩
theorem rexpire_any (g:Nat) (s:RS) (W R:Nat->Prop) (sb:Nat) (l:List SE) (ub eb:Nat) (w:World) (h:RxM w g s W R sb l ub eb) (hro:0<=s.C.ro/\s.C.ro<=1073741824) (hl:l.length<=250) :
  Calls Tryz.prog 31 #[.pointer (some ⟨g,0,none⟩)] w (ExpO s W R g sb l ub eb w):=by
 by_cases hi:s.run=false\/s.now < s.expiry
 ·exact rexpire_idle g s W R sb l ub eb w h hi
 ·refine rexpire_go g s W R sb l ub eb w h hro ?_ ?_ hl
  ·cases hr:s.run
   ·exact absurd (.inl hr) hi
   ·rfl
  ·have:¬s.now < s.expiry:=fun h=>hi (.inr h);omega
theorem stop_keeps (s:RS):s.stop.C=s.C/\s.stop.dup=s.dup/\s.stop.L=s.L/\s.stop.deliver=s.deliver/\s.stop.next=s.next/\s.stop.now=s.now:=by unfold RS.stop;split<;>exact⟨rfl,rfl,rfl,rfl,rfl,rfl⟩
theorem start_keeps (s:RS):s.start.C=s.C/\s.start.dup=s.dup/\s.start.L=s.L/\s.start.deliver=s.deliver/\s.start.next=s.next/\s.start.now=s.now:=by unfold RS.start;split<;>exact⟨rfl,rfl,rfl,rfl,rfl,rfl⟩
theorem timer_keeps (s:RS):s.timer.C=s.C/\s.timer.dup=s.dup/\s.timer.L=s.L/\s.timer.deliver=s.deliver/\s.timer.next=s.next/\s.timer.now=s.now:=by
 unfold RS.timer;obtain⟨a1,a2,a3,a4,a5,a6⟩:=start_keeps s.stop;obtain⟨b1,b2,b3,b4,b5,b6⟩:=stop_keeps s
 exact⟨a1.trans b1,a2.trans b2,a3.trans b3,a4.trans b4,a5.trans b5,a6.trans b6⟩
theorem fromL_len (l:List SV) (d:Int):(fromL l d).1.length+(fromL l d).2.1.length=l.length:=by
 have:=congrArg List.length (fromL_app l d)
 rwa [List.length_append]at this
theorem expire_keeps (s:RS):s.expire.2.C=s.C/\s.expire.2.dup=s.dup/\s.expire.1.length+s.expire.2.L.length=s.L.length:=by
 unfold RS.expire
 split
 ·exact⟨rfl,rfl,by simp⟩
 ·obtain⟨b1,b2,b3,_⟩:=timer_keeps s.cut.deliver_.2;refine⟨b1,b2,?_⟩;show(lowL s.limit s.L++s.cut.deliver_.1).length+s.cut.deliver_.2.timer.L.length=_;rw[b3];have h1:=fromL_len s.cut.L s.cut.deliver;have h2:(lowL s.limit s.L).length+(highL s.limit s.L).length=s.L.length:=by
   unfold lowL highL
   induction s.L with
   | nil=>rfl
   | cons e r ih=>
    rw[List.filter_cons,List.filter_cons];by_cases hk:e.ct < s.limit
    ·simp only[hk,decide_true,if_true,Bool.not_true,Bool.false_eq_true,if_false,List.length_cons];omega
    ·simp only[hk,decide_false,Bool.false_eq_true,if_false,Bool.not_false,if_true,List.length_cons];omega
  rw[List.length_append];show _+(fromL s.cut.L s.cut.deliver).1.length+(fromL s.cut.L s.cut.deliver).2.1.length=_;have h3:s.cut.L=highL s.limit s.L:=rfl;rw[h3]at h1 ⊢;omega
theorem take_err (s:RS) (n:Nat) (z:Nat->Nat) (h:(s.take n z).1 ≠ 0):(s.take n z).2.1=false:=by
 revert h
 unfold RS.take
 (repeat' split)<;>simp
theorem keepW {W R:Nat->Prop} {w w2 w3:World} {g:Nat} {s:RS} {sb:Nat} {l:List SE} {ub eb:Nat} (h:RxM w2 g s W R sb l ub eb) {F:Nat->Prop} (hk:KeepF F w2 w3) (hF:∀k,F k->w.heap.size<=k) (hW:(∀k,W k->k < w.heap.size)/\∀k,R k->k < w.heap.size):RxM w3 g s W R sb l ub eb:=
 h.keepF hk (fun k hf=>⟨fun hw=>by have:=hW.1 k hw;have:=hF k hf;omega,fun hw=>by have:=hW.2 k hw;have:=hF k hf;omega⟩)
theorem take_C (s:RS) (n:Nat) (z:Nat->Nat):(s.take n z).2.2.C=s.C:=by
 unfold RS.take
 (repeat' split)<;>rfl
def DataAll (g:Nat) (C:Cfg) (W R:Nat->Prop) (sb ub eb:Nat) (A:Option Addr) (n c:Nat) (z:Nat->Nat):Prop:=
 ∀(s':RS) (l':List SE) (w':World),s'.C=C->RxM w' g s' W R sb l' ub eb->Row w' w'.heap.size A n (fun j=>.int .u8 ((z j:Nat):Int))->DataOK g C A n c z w'
theorem dataAll_plain (g:Nat) (C:Cfg) (W R:Nat->Prop) (sb ub eb:Nat) (A:Option Addr) (n c:Nat) (z:Nat->Nat) (hok:C.Ok) (hv:C.Valid) (hig:C.ig=false) (hnc:n<=c) (hz:∀j,j < n->z j < 256):DataAll g C W R sb ub eb A n c z:=
 fun s' l' w' hC h hr hn ct W' hct hb=>by
  subst hC
  exact data_plain g s' W R sb l' ub eb W' (h.below hb) hok hv ct hct A n c z (by unfold Cfg.least at hn;rw[hig]at hn;simpa using hn) (.inl hig) hnc hz (hr.next hb)
def RecvO (g:Nat) (s:RS) (W R:Nat->Prop) (sb ub eb:Nat) (t:Int) (n:Nat) (z:Nat->Nat) (w:World) (e:Ending) (w':World):Prop:=
 ∃R' l' A c lo,e=.returned (.tuple #[.slice A lo.length c,.int .i64 (s.receive t n z).2.1])/\OutM w' w.heap.size A c lo/\lo.map (·.v)=(s.receive t n z).1/\(∀x,x∈lo->Pkt w' R' x.A x.v.n x.c x.v.z)/\
  RxM w' g (s.receive t n z).2.2 W R' sb l' ub eb/\(∀k,R' k->R k\/w.heap.size<=k)/\(∀k,R k->R' k)/\KeepF W w w'
def OutJ (w w7:World) (w2s:Nat) (W R':Nat->Prop) (ob bx:Nat) (lo pre:List SE) (V:World):Prop:=
 ∃A c,Blk V ob 34 #[.slice A (lo++pre).length c]/\SL V 35 1 A (lo++pre).length c ((lo++pre).map SE.val)/\(∀a,A=some a->w2s<=a.block/\a.block ≠ bx/\¬R' a.block)/\KeepF W w V/\Blk V (ob+1) 31 #[.int .i64 0]/\KeepF (fun k=>¬R' k) w7 V
theorem outJ_loop (w w7:World) (w2s:Nat) (W R':Nat->Prop) (ob bx:Nat) (lo:List SE) (B:Nat) (h1:w.heap.size<=B) (h2:∀k,R' k->k < B):LoopFrom B (OutJ w w7 w2s W R' ob bx lo):=fun pre V V' row ⟨A,c,hO,hS,hA,hK,hE,hJ⟩ hg hr=>by
 have hkf:KeepF (fun k=>row=some k) V V':=⟨hg.os,hg.tape,hg.output,hg.size,fun k hk hn=>hg.block k hk (fun e=>hn e.symm)⟩
 refine⟨A,c,hkf.blk hO (fun e=>?_),hS.keepF hkf (fun a ha e=>?_),hA,hK.trans hkf (fun k hk e=>?_),hkf.blk hE (fun e=>?_),hJ.trans hkf (fun k hk e hr'=>?_)⟩
 ·obtain⟨_,o,ho,hc,_⟩:=hr _ e;rw[show V.heap[ob]? = _ from hO]at ho;cases ho;cases hc
 ·obtain⟨_,o,ho,hc,_⟩:=hr _ e;obtain⟨cur,hcur⟩:=hS.obj ha;rw[hcur]at ho;cases ho;cases hc
 ·have:=(hr _ e).1;omega
 ·obtain⟨_,o,ho,hc,_⟩:=hr _ e;rw[show V.heap[ob+1]? = _ from hE]at ho;cases ho;cases hc
 ·have:=(hr _ e).1;have:=h2 _ hr';omega
theorem outJ_keep {w w7:World} {w2s:Nat} {W R':Nat->Prop} {ob bx:Nat} {lo pre:List SE} {V V':World} {F:Nat->Prop} (h:OutJ w w7 w2s W R' ob bx lo pre V) (hk:KeepF F V V') (h1:∀k,F k->k < w2s/\k ≠ ob/\k ≠ ob+1/\W k/\¬R' k):OutJ w w7 w2s W R' ob bx lo pre V':=by
 obtain⟨A,c,hO,hS,hA,hK,hE,hJ⟩:=h
 exact⟨A,c,hk.blk hO (fun e=>(h1 _ e).2.1 rfl),hS.keepF hk (fun a ha e=>by have:=(hA a ha).1;have:=(h1 _ e).1;omega),hA,hK.trans hk (fun k _ e=>(h1 k e).2.2.2.1),hk.blk hE (fun e=>(h1 _ e).2.2.1 rfl),hJ.trans hk (fun k _ e=>(h1 k e).2.2.2.2)⟩
theorem recv_fin {g:Nat} {s s7:RS} {W R R':Nat->Prop} {sb ub eb:Nat} {t:Int} {n:Nat} {z:Nat->Nat} {w w4 w7 w9:World} {ob w2s:Nat} {x1:List SV} {ec:Int} {A1:Option Addr} {c1:Nat} {lo1 l7:List SE}
  (hX:s.receive t n z=(x1,ec,s7)) (hob:ob=w.heap.size) (hW:(∀k,W k->k < w.heap.size)/\∀k,R k->k < w.heap.size) (hdis:∀k,W k->R k->False) (hm:lo1.map (·.v)=x1) (h24:ob+1 < w2s/\w2s<=w4.heap.size) (hM4:OutM w4 w2s A1 c1 lo1) (hP4:∀x,x∈lo1->Pkt w4 R x.A x.v.n x.c x.v.z)
  (hK4:KeepF W w w4) (hT7:RxM w7 g s7 W R' sb l7 ub eb) (hR1:∀k,R' k->R k\/w4.heap.size<=k) (hR2:∀k,R k->R' k) (hk7:KeepF W w4 w7) (F9:KeepF (fun k=>k=ob\/k=ob+1) w7 w9) :
  RecvO g s W R sb ub eb t n z w (.returned (.tuple #[.slice A1 lo1.length c1,.int .i64 ec])) w9:=by
 have hz4:=hK4.size;have hnR:∀k,(k=ob\/k=ob+1)->¬R' k:=fun k hk hr=>by
  rcases hR1 k hr with h | h
  ·have:=hW.2 k h;omega
  ·omega
 refine⟨R',l7,A1,c1,lo1,by rw[hX],⟨(hM4.1.keepF hk7 (fun a ha hw=>by have:=hM4.2 a ha;have:=hW.1 _ hw;omega)).keepF F9 (fun a ha hf=>by have:=hM4.2 a ha;omega),fun a ha=>by have:=hM4.2 a ha;omega⟩,by rw[hX];exact hm,fun x hx=>?_,?_,fun k hr=>?_,hR2,?_⟩
 ·exact(((hP4 x hx).keep hk7 (fun k hw hr=>hdis k hw hr)).mono hR2).keep F9 hnR
 ·rw[hX]
  exact hT7.keepF F9 (fun k hk=>⟨fun hw=>by have:=hW.1 k hw;omega,hnR k hk⟩)
 ·rcases hR1 k hr with h | h
  ·exact .inl h
  ·exact .inr (by omega)
 ·exact(hK4.trans hk7 (fun _ _ h=>h)).trans F9 (fun k hk e=>by omega)
theorem receive_ok (g:Nat) (s:RS) (W R:Nat->Prop) (sb:Nat) (l:List SE) (ub eb:Nat) (w:World) (h:RxM w g s W R sb l ub eb) (hok:s.C.Ok) (hcm:s.C.cm=false) (hro:0<=s.C.ro/\s.C.ro<=1073741824) (hl:l.length<=250) (hdup:s.dup < 4611686018427387903) (t:Int)
  (A:Option Addr) (n c:Nat) (z:Nat->Nat) (hn:n<=9223372036854775807) (hnc:n<=c) (hz:∀j,j < n->z j < 256) (hr:Row w w.heap.size A n (fun j=>.int .u8 ((z j:Nat):Int))) (hA:∀a,A=some a->n ≠ 0->¬W a.block) (hD:DataAll g s.C W R sb ub eb A n c z) :
  Calls Tryz.prog 11 #[.pointer (some ⟨g,0,none⟩),.int .i64 t,.slice A n c] w (RecvO g s W R sb ub eb t n z w):=by
 have hmf:∀(fn:Fn) (first cap:Array Value) (w:World),(Instr.makeFunc fn first cap).run Tryz.prog w=.ok (.func fn first cap) w:=fun _ _ _ _=>rfl;obtain⟨ob,hob⟩:∃ob,ob=w.heap.size:=⟨_,rfl⟩
 obtain⟨W1,hW1⟩:∃W1,W1=(w.alloc (.cells #[.slice none 0 0] 34)).alloc (.cells #[.int .i64 0] 31):=⟨_,rfl⟩
 have hB1:Below w.heap.size w W1:=by rw[hW1];exact((Below.refl _ w).alloc (Nat.le_refl _) _).alloc (by simp) _
 have hO:Blk W1 ob 34 #[.slice none 0 0]:=by rw[hW1,hob];exact(Blk.new _ _ _).alloc _
 have hE:Blk W1 (ob+1) 31 #[.int .i64 0]:=by rw[hW1,hob];exact blk_atA _ _ _ _ (by simp)
 have hT:=h.below hB1;have HAT:=zh (rat_ok g s W R sb l ub eb W1 hT t);have HW:=zh (And.intro h.win h.rin);have HWG:=zh (And.intro h.wg h.ws);have HDIS:=zh h.dis;have hgo:g < ob/\sb < ob:=by have:=h.win _ h.wg;have:=h.win _ h.ws;omega
 have HP:=zh (And.intro hok (And.intro hcm (And.intro hro (And.intro hl (And.intro hdup (And.intro hnc (And.intro hz (And.intro hr (And.intro hA (And.intro hD h.lv))))))))));have HO:=zh hO;have HE:=zh hE;have HB1:=zh hB1;have HWW:=zh hW1;have HOB:=zh hob;clear h hok hcm hro hl hdup hnc hz hr hA hD hO hE hB1 hW1 hT;refine(callsIn_wide (n:=9)).1 ?_;refine callsIn_of_wp_marks Tryz.func11 rfl trivial ?_ rfl;simp only[Tryz.ntmps11,List.size_toArray,List.length_cons,List.length_nil,Nat.reduceAdd,Nat.reduceSub,Array.replicate_succ,Array.replicate_zero,List.push_toArray,List.append_toArray,List.nil_append,List.cons_append];refine wpIn_wide.2 ?_;go_upto_region 1 with (fail)
 rw[<-HWW.out,<-HOB.out];clear hob;by_cases hbt:1073741824<=t
 ·have HX:=zh (show s.receive t n z=([],2,s) by unfold RS.receive;rw[if_pos hbt]);go_wp2_with (go_at_call 30;refine(HAT.out).mono ?_;rintro e w2 ⟨he,hT2,hk2⟩;rw[if_pos hbt]at he hT2;subst he;have HT2:=zh hT2;have HK2:=zh hk2;have f1:=(hk2.blk HO.out (by omega)).frozen 0;have f2:=(hk2.blk HE.out (by omega)).frozen 0;have o1:=(hk2.blk HO.out (by omega)).cell 0;have o2:=(hk2.blk HE.out (by omega)).cell 0;clear hT2 hk2);have ho2:Blk w2 ob 34 #[.slice none 0 0]:=HK2.out.blk HO.out (by omega);have he2:Blk w2 (ob+1) 31 #[.int .i64 0]:=HK2.out.blk HE.out (by omega);have k3:=keep_set w2 ob 0 (.slice none 0 0);have k4:=keep_set (w2.setCell ⟨ob,0,none⟩ (.slice none 0 0)) (ob+1) 0 (.int .i64 2);have k34:KeepF (fun k=>k=ob\/k=ob+1) w2 ((w2.setCell ⟨ob,0,none⟩ (.slice none 0 0)).setCell ⟨ob+1,0,none⟩ (.int .i64 2)):=(k3.mono (fun _ h=>.inl h)).trans k4 (fun _ _ h=>.inr h);have q1:=(k4.blk (ho2.set_ 0 (.slice none 0 0)) (by omega)).cell 0;have q2:=((k3.blk he2 (by omega)).set_ 0 (.int .i64 2)).cell 0;simp at q1 q2;refine⟨.tuple #[.slice none 0 0,.int .i64 2],by simp[results,Tryz.results11,go_sem,q1,q2],?_⟩;refine⟨R,l,none,0,[],by rw[HX.out];rfl,⟨SL.nil _ _ _,fun a h=>by cases h⟩,by rw[HX.out];rfl,fun x h=>by simp at h,?_,fun k h=>.inl h,fun k h=>h,?_⟩
  ·rw[HX.out]
   exact keepW HT2.out k34 (fun k h=>by have:=HOB.out;omega) HW.out
  ·exact((KeepF.of_below HB1.out).trans HK2.out (fun k _ e=>by rw[e];exact HWG.out.1)).trans k34 (fun k hk e=>by have:=HOB.out;omega)
 have HX:=zh (show s.receive t n z=(let y:=(s.at_ t).expire.2.take n z;if y.2.1=true then ((s.at_ t).expire.1++y.2.2.deliver_.1,0,y.2.2.deliver_.2.timer) else ((s.at_ t).expire.1,y.1,y.2.2)) by unfold RS.receive;rw[if_neg hbt]);go_upto_region 4 with (go_at_call 30;refine(HAT.out).mono ?_;rintro e w2 ⟨he,hT2,hk2⟩;rw[if_neg hbt]at he hT2;subst he;have HT2:=zh hT2;have HK2:=zh hk2;have HO2:=zh (hk2.blk HO.out (by omega));have HE2:=zh (hk2.blk HE.out (by omega));clear hT2 hk2)
 have HEXP:=zh (rexpire_any g (s.at_ t) W R sb l ub eb w2 HT2.out HP.out.2.2.1 HP.out.2.2.2.1);have hWob:¬W ob/\¬W (ob+1)/\¬R ob/\¬R (ob+1):=⟨fun h=>by have:=HW.out.1 _ h;have:=HOB.out;omega,fun h=>by have:=HW.out.1 _ h;have:=HOB.out;omega,fun h=>by have:=HW.out.2 _ h;have:=HOB.out;omega,fun h=>by have:=HW.out.2 _ h;have:=HOB.out;omega⟩
 have HWO:=zh hWob;clear hWob;go_upto_region 6 with (go_at_call 31;refine(HEXP.out).mono ?_;rintro e w3 ⟨A1,c1,lo1,l1,rfl,hM1,hm1,hs1,hs2,hT3,hk3⟩;have HM1:=zh (And.intro hM1 (And.intro hm1 (And.intro hs1 hs2)));have HT3:=zh hT3;have HK3:=zh hk3;have HO3:=zh (hk3.blk HO2.out HWO.out.1);have HE3:=zh (hk3.blk HE2.out HWO.out.2.1);have f3:=HO3.out.frozen 0;have o3:w3.cell? ⟨ob,0,none⟩=some (.slice none 0 0):=HO3.out.cell 0;clear hM1 hm1 hs1 hs2 hT3 hk3)
 obtain⟨s5,hs5⟩:∃x,x=(s.at_ t).expire.2:=⟨_,rfl⟩
 obtain⟨x1,hx1⟩:∃x,x=(s.at_ t).expire.1:=⟨_,rfl⟩
 have hkp:=expire_keeps (s.at_ t);rw[<-hs5,<-hx1]at hkp HX;rw[<-hs5]at HT3;rw[<-hx1]at HM1;have hatC:(s.at_ t).C=s.C/\(s.at_ t).dup=s.dup/\(s.at_ t).L=s.L:=⟨rfl,rfl,rfl⟩
 have hc5:s5.C=s.C:=hkp.1.trans hatC.1;have hd5:s5.dup=s.dup:=hkp.2.1.trans hatC.2.1;have hlen5:x1.length+s5.L.length<=250:=by rw[hkp.2.2,hatC.2.2,<-HP.out.2.2.2.2.2.2.2.2.2.2,List.length_map];exact HP.out.2.2.2.1
 have hl1:lo1.length=x1.length:=by rw[<-HM1.out.2.1,List.length_map]
 have hl5:l1.length=s5.L.length:=by rw[<-HT3.out.lv,List.length_map]
 have HLEN:=zh (show lo1.length+l1.length<=250 by omega);have HC5:=zh (And.intro hc5 hd5);have k4:=keep_set w3 ob 0 (.slice A1 lo1.length c1);have hKW:KeepF W w (w3.setCell ⟨ob,0,none⟩ (.slice A1 lo1.length c1)):=(((KeepF.of_below HB1.out).trans HK2.out (fun k _ e=>by rw[e];exact HWG.out.1)).trans HK3.out (fun k _ h=>h)).trans k4 (fun k hk e=>by have:=HOB.out;omega);refine wp_let (fun V=>RxM V g s5 W R sb l1 ub eb/\Blk V ob 34 #[.slice A1 lo1.length c1]/\Blk V (ob+1) 31 #[.int .i64 0]/\OutM V w2.heap.size A1 c1 lo1/\KeepF W w V/\(∀x,x∈lo1->Pkt V R x.A x.v.n x.c x.v.z)/\w2.heap.size<=V.heap.size)
  ⟨keepW HT3.out k4 (fun k h=>by have:=HOB.out;omega) HW.out,HO3.out.set_ 0 _,k4.blk HE3.out (by omega),⟨HM1.out.1.1.keepF k4 (fun a ha e=>by have:=HM1.out.1.2 a ha;have:=HO2.out.lt;omega),HM1.out.1.2⟩,hKW,fun x hx=>(HT2.out.pk x (HM1.out.2.2.1 x hx)).keep ((HK3.out.mono (G:=fun k=>W k\/k=ob) (fun _ h=>.inl h)).trans k4 (fun k _ h=>.inr h)) (fun k hk hr=>by
   rcases hk with hk | hk
   ·exact HDIS.out k hk hr
   ·rw[hk]at hr;exact HWO.out.2.2.1 hr),Nat.le_trans HK3.out.size k4.size⟩ ?_
 rintro w4 ⟨t4,o4,e4,m4,kw4,p4,z4⟩;have HT4:=zh t4;have HO4:=zh o4;have HE4:=zh e4;have HM4:=zh m4;have HK4:=zh kw4;have HP4:=zh p4;have hz24:w.heap.size<=w2.heap.size:=Nat.le_trans HB1.out.size HK2.out.size;have HZ4:=zh (And.intro z4 hz24);have HR4:Hid (Row w4 w4.heap.size A n (fun j=>.int .u8 ((z j:Nat):Int))):=zh ((HK4.out.row HP.out.2.2.2.2.2.2.2.1 (Nat.le_refl _) (fun a ha hn0=>HP.out.2.2.2.2.2.2.2.2.1 a ha hn0)).more HK4.out.size);have hDA:=HP.out.2.2.2.2.2.2.2.2.2.1 s5 l1 w4 hc5 t4 HR4.out;rw[<-hc5]at hDA;have HTK:Hid (Calls Tryz.prog 33 #[.pointer (some ⟨g,0,none⟩),.slice A n c] w4 (TakeO g s5 W R sb l1 ub eb n z w4)):=zh (by
  have o5:s5.C.Ok:=by rw[hc5];exact HP.out.1
  have c5:s5.C.cm=false:=by rw[hc5];exact HP.out.2.1
  have d5:s5.dup < 4611686018427387903:=by rw[hd5];exact HP.out.2.2.2.2.1
  cases hig:s5.C.ig
  ·exact take_no g s5 W R sb l1 ub eb w4 t4 o5 c5 hig d5 A n c z hn HP.out.2.2.2.2.2.1 HP.out.2.2.2.2.2.2.1 HR4.out hDA
  ·exact take_yes g s5 W R sb l1 ub eb w4 t4 o5 c5 hig d5 A n c z hn HP.out.2.2.2.2.2.1 HP.out.2.2.2.2.2.2.1 HR4.out hDA)
 clear t4 o4 e4 m4 kw4 p4 k4 hKW hDA hkp hl1 hl5 hlen5 hc5 hd5 hatC f3 o3;obtain⟨ec,nw,s7,htk⟩:∃a b c,s5.take n z=(a,b,c):=⟨_,_,_,rfl⟩
 have hnw:=take_err s5 n z;have hc7:=take_C s5 n z;rw[htk]at hnw HX hc7;simp only at hnw HX hc7;have HC7:=zh (hc7.trans HC5.out.1);clear hc7;have HTE:=zh htk;by_cases hec:ec=0;rotate_left
 ·have hnf:=hnw hec;subst hnf;go_wp2_with (go_at_call 33;refine(HTK.out).mono ?_;rintro e w7 ⟨R',l7,he,hT7,hR1,hR2,hk7,hl7⟩;rw[HTE.out]at he hT7;simp only at he hT7;rw[if_neg hec]at he;subst he;have HT7:=zh hT7;have HR7:=zh (And.intro hR1 hR2);have HK7:=zh hk7;clear hT7 hR1 hR2 hk7 hl7);have c7:w7.cell? ⟨ob+1,0,none⟩=some (.int .i64 0):=(HK7.out.blk HE4.out HWO.out.2.1).cell 0;have f7:=(HK7.out.blk HE4.out HWO.out.2.1).frozen 0;refine⟨by simp,.inr ⟨fun h=>(by cases h),_,_,32,#[.pointer (some ⟨ob+1,0,none⟩)],rfl,by simp[go_sem],fun g _=>trivial,?_⟩⟩;refine(recv1_caught ⟨ob+1,0,none⟩ 0 ec [] w7 c7 f7).mono ?_;rintro en u' w'' ⟨rfl,rfl,hw⟩;have k9:=keep_set w7 (ob+1) 0 (.int .i64 ec);rw[<-hw]at k9;have y1:w''.cell? ⟨ob,0,none⟩=some (.slice A1 lo1.length c1):=(k9.blk (HK7.out.blk HO4.out HWO.out.1) (by omega)).cell 0;have y2:w''.cell? ⟨ob+1,0,none⟩=some (.int .i64 ec):=by rw[hw];exact((HK7.out.blk HE4.out HWO.out.2.1).set_ 0 _).cell 0
  refine⟨.tuple #[.slice A1 lo1.length c1,.int .i64 ec],by simp[results,Tryz.results11,go_sem,y1,y2],?_⟩
  exact recv_fin HX.out HOB.out HW.out HDIS.out HM1.out.2.1 ⟨HE2.out.lt,HZ4.out.1⟩ HM4.out HP4.out HK4.out HT7.out HR7.out.1 HR7.out.2 HK7.out (k9.mono (fun _ h=>.inr h))
 subst hec
 cases nw
 ·go_wp2_with (go_at_call 33;refine(HTK.out).mono ?_;rintro e w7 ⟨R',l7,he,hT7,hR1,hR2,hk7,hl7⟩;rw[HTE.out]at he hT7;simp only at he hT7;obtain rfl:e=.returned (.bool false):=(by simpa using he);have HT7:=zh hT7;have HR7:=zh (And.intro hR1 hR2);have HK7:=zh hk7;have o7:w7.cell? ⟨ob,0,none⟩=some (.slice A1 lo1.length c1):=(hk7.blk HO4.out HWO.out.1).cell 0;have e7:w7.cell? ⟨ob+1,0,none⟩=some (.int .i64 0):=(hk7.blk HE4.out HWO.out.2.1).cell 0;have fo7:=(hk7.blk HO4.out HWO.out.1).frozen 0;have fe7:=(hk7.blk HE4.out HWO.out.2.1).frozen 0;clear hT7 hR1 hR2 hk7 hl7);have k8:=keep_set w7 ob 0 (.slice A1 lo1.length c1);have k9:=keep_set (w7.setCell ⟨ob,0,none⟩ (.slice A1 lo1.length c1)) (ob+1) 0 (.int .i64 0);have k89:KeepF (fun k=>k=ob\/k=ob+1) w7 ((w7.setCell ⟨ob,0,none⟩ (.slice A1 lo1.length c1)).setCell ⟨ob+1,0,none⟩ (.int .i64 0)):=(k8.mono (fun _ h=>.inl h)).trans k9 (fun _ _ h=>.inr h);have y1:((w7.setCell ⟨ob,0,none⟩ (.slice A1 lo1.length c1)).setCell ⟨ob+1,0,none⟩ (.int .i64 0)).cell? ⟨ob,0,none⟩=some (.slice A1 lo1.length c1):=(k9.blk ((HK7.out.blk HO4.out HWO.out.1).set_ 0 _) (by omega)).cell 0;have y2:((w7.setCell ⟨ob,0,none⟩ (.slice A1 lo1.length c1)).setCell ⟨ob+1,0,none⟩ (.int .i64 0)).cell? ⟨ob+1,0,none⟩=some (.int .i64 0):=((k8.blk (HK7.out.blk HE4.out HWO.out.2.1) (by omega)).set_ 0 _).cell 0;refine⟨by simp,.inr ⟨fun h=>(by cases h),_,_,32,#[.pointer (some ⟨ob+1,0,none⟩)],rfl,by simp[go_sem],fun g _=>trivial,?_⟩⟩;refine(recv1_idle ⟨ob+1,0,none⟩ _).mono ?_;rintro en u' w'' ⟨rfl,rfl,rfl⟩;refine⟨.tuple #[.slice A1 lo1.length c1,.int .i64 0],by simp[results,Tryz.results11,go_sem,y1,y2],?_⟩
  exact recv_fin HX.out HOB.out HW.out HDIS.out HM1.out.2.1 ⟨HE2.out.lt,HZ4.out.1⟩ HM4.out HP4.out HK4.out HT7.out HR7.out.1 HR7.out.2 HK7.out k89
 have hcd7:=expire_keeps (s.at_ t);go_upto_region 7 with (go_at_call 33;refine(HTK.out).mono ?_;rintro e w7 ⟨R',l7,he,hT7,hR1,hR2,hk7,hl7⟩;rw[HTE.out]at he hT7;simp only at he hT7;obtain rfl:e=.returned (.bool true):=(by simpa using he);have HT7:=zh hT7;have HR7:=zh (And.intro hR1 hR2);have HK7:=zh hk7;have HL7:=zh hl7;clear hT7 hR1 hR2 hk7 hl7)
 simp only[if_true]at HX;have HWR':Hid ((∀k,W k->k < w7.heap.size)/\∀k,R' k->k < w7.heap.size):=zh (And.intro HT7.out.win HT7.out.rin);have hRob:¬R' ob/\¬R' (ob+1):=by
  have h1:=HE4.out.lt;refine⟨fun hr=>?_,fun hr=>?_⟩
  ·rcases HR7.out.1 _ hr with h | h
   ·exact HWO.out.2.2.1 h
   ·omega
  ·rcases HR7.out.1 _ hr with h | h
   ·exact HWO.out.2.2.2 h
   ·omega
 have HRO:=zh hRob;obtain⟨bx,hbx⟩:∃b,b=w7.heap.size:=⟨_,rfl⟩
 obtain⟨V5,hV5⟩:∃v,v=w7.alloc (.cells #[.pointer (some ⟨g,0,none⟩)] 30):=⟨_,rfl⟩
 have hB5:Below w7.heap.size w7 V5:=by rw[hV5];exact bnA _
 have hX5:Blk V5 bx 30 #[.pointer (some ⟨g,0,none⟩)]:=by rw[hV5,hbx];exact Blk.new _ _ _
 have hz5:V5.heap.size=bx+1:=by rw[hV5,hbx];simp
 have HFM:=zh (from_made g w7);rw[<-hV5,<-hbx]at HFM;have hT5:=HT7.out.below hB5;have hO7:=HK7.out.blk HO4.out HWO.out.1;have hE7:=HK7.out.blk HE4.out HWO.out.2.1;have hM7:SL w7 35 1 A1 lo1.length c1 (lo1.map SE.val):=HM4.out.1.keepF HK7.out (fun a ha hw=>by have:=HM4.out.2 a ha;have:=HW.out.1 _ hw;have:=HZ4.out.2;omega);have hKW7:KeepF W w w7:=HK4.out.trans HK7.out (fun _ _ h=>h);have h24:=HE2.out.lt;have hI5:OutJ w w7 w2.heap.size W R' ob bx lo1 [] V5:=⟨A1,c1,by rw[List.append_nil];exact hO7.below hB5 hO7.lt,by rw[List.append_nil];exact hM7.next hB5,fun a ha=>⟨HM4.out.2 a ha,by have:=hM7.lt ha;omega,fun hr=>by
  have h1:=HM4.out.1.lt ha;have h2:=HM4.out.2 a ha;rcases HR7.out.1 _ hr with h | h
  ·have:=HW.out.2 _ h;have:=HZ4.out.2;omega
  ·omega⟩,hKW7.more hB5,hE7.below hB5 hE7.lt,KeepF.of_below hB5⟩
 have hR5:FromR g s7 W R' sb l7 ub eb bx [] V5:=⟨l7,rfl,fun k e h=>by simp at h,by
  have e:=hT5.lv;have e2:({ s7 with L:=l7.map (·.v),deliver:=s7.deliver+(([]:List SE).length:Nat) }:RS)=s7:=by rw[e];simp
  rw[e2]
  exact hT5,hX5⟩
 have hsz7:w2.heap.size<=w7.heap.size:=Nat.le_trans HZ4.out.1 HK7.out.size;have hbx2:w2.heap.size<=bx:=by omega
 have hwl:=HW.out;have hwl7:∀k,R' k->k < bx:=fun k hk=>by have:=HWR'.out.2 k hk;omega
 have hsl:sb < w2.heap.size/\g < w2.heap.size:=by omega
 have hbg:bx ≠ g/\bx ≠ sb:=by omega
 have hwb:w.heap.size<=bx:=Nat.le_trans HZ4.out.2 hbx2;have hobb:ob+1 < bx:=by omega
 have hobw:w.heap.size<=ob:=Nat.le_of_eq HOB.out.symm;have HHE:=zh (show Blk V5 (ob+1) 31 #[.int .i64 0]from hE7.below hB5 hE7.lt);have HP7:Hid (∀x,x∈lo1->Pkt w7 R' x.A x.v.n x.c x.v.z):=zh (fun x hx=>((HP4.out x hx).keep HK7.out (fun k hw hr=>HDIS.out k hw hr)).mono HR7.out.2);have HQ7:=zh (And.intro HT7.out.pk HT7.out.lv);have HH:=zh (And.intro hI5 (And.intro hR5 (And.intro hz5 (And.intro hbx HT7.out.lv))));have HDS:=zh HT7.out.dis;have HLN:=zh (show lo1.length+l7.length<=251 by have:=HLEN.out;have:=HL7.out;omega);clear hT5 hI5 hR5 hB5 hX5 hV5 hbx hO7 hE7 hM7 hKW7 hRob hcd7;go_wp2_with (go_at_call 34;refine(HFM.out).mono ?_;rintro e w3 ⟨rfl,rfl⟩);refine(wpIn_wide (n:=9)).1 ?_;refine wpIn_rangeFunc_work rfl (by decide) (gf:=66) (lb:=#[.pointer (some ⟨bx,0,none⟩)]) rfl trivial (enters_of Tryz.func66 (by kernel_rfl) rfl)
  (from_seq g s7 W R' sb l7 ub eb bx 8 (by decide) hbg.1 hbg.2) (fun _=>rfl) (fun A B k o h hk ho _ _=>h.same ho (by rintro (e | e)<;>omega))
  (OutJ w w7 w2.heap.size W R' ob bx lo1) (outJ_loop _ _ _ _ _ _ _ _ _ (by omega) (fun k hk=>by have:=hwl7 k hk;omega)) (fun pre A B h hk=>outJ_keep h hk (fun k e=>by
   rcases e with rfl | rfl
   ·exact⟨by omega,by omega,by omega,HWG.out.1,fun hr=>HDS.out _ HWG.out.1 hr⟩
   ·exact⟨by omega,by omega,by omega,HWG.out.2,fun hr=>HDS.out _ HWG.out.2 hr⟩))
  (fun _=>fromR_loop g s7 W R' sb l7 ub eb bx _ (by omega) (fun k hk=>by have:=hwl.1 k hk;omega) (fun k hk=>by have:=hwl7 k hk;omega)) HH.out.1
  (fun u A A' row h hg hr=>fromR_loop g s7 W R' sb l7 ub eb bx V5.heap.size (by omega) (fun k hk=>by have:=hwl.1 k hk;omega) (fun k hk=>by have:=hwl7 k hk;omega) [] A A' row h hg hr) HH.out.2.1 ?a1 ?assign ?body ?done
 case assign=>
  intro lp x Wa K hK
  gi_wp2
  simp only[SE.val]
  exact hK
 case body=>
  rintro lp i pre x Wb ⟨A2,c2,hO2,hS2,hA2,hK2,hE2,hJ2⟩ hR2;have hgs:=hK2.size;have hlen:(lo1++pre).length<=251:=by
   obtain⟨rest,e1,_⟩:=hR2;have h1:=HLN.out;have h2:=congrArg List.length e1;simp only[List.length_append,List.length_cons,List.length_nil]at h2 ⊢;omega
  obtain⟨i0,hi0,hz0,hz1,hz2⟩:=info_parts Tryz.infoSl;obtain⟨n2,hn2⟩:∃n,n=(lo1++pre).length:=⟨_,rfl⟩
  rw[<-hn2]at hO2 hS2 hlen;have hszb:=hR2.choose_spec.2.2.2.lt;have HN2:=zh hn2;have HOB2:=zh hO2;have HSB:=zh hS2;have HA2:=zh hA2;have HKK:=zh hK2;have HEB:=zh hE2;have HJB:=zh hJ2;have HRB:=zh hR2;have co:=hO2.cell 0;have co1:Wb.cell? ⟨ob,0,none⟩=some (.slice A2 n2 c2):=co;clear co hO2 hS2 hA2 hK2 hE2 hJ2 hR2 hn2 HH
  gi_wp2_with (gi_at_builtin;refine wpListIn_sl_append rfl _ _ 34 34 rfl _ 35 i0 (.slice none 0 0) 1 24 Tryz.underlying34 hi0 hz0 hz1 hz2 rfl A2 n2 c2 _ rfl (HSB.out.next ((Below.refl _ Wb).alloc (Nat.le_refl _) _)) (.slice (some ⟨Wb.heap.size,0,none⟩) 1 1) rfl 1 [x.val] (src_new Wb x.val rfl) (by omega) (by unfold maxLen;omega) (by omega) ?_;intro A3 c3 w6 hs6 hk6 ho6;have hE6:KeepF (fun k=>∃a,A2=some a/\k=a.block) Wb w6:=((KeepF.refl (w:=Wb)).alloc _).trans hk6 (fun k _ h=>h);have hc1:w6.cell? ⟨ob,0,none⟩=some (.slice A2 n2 c2):=(hE6.cell (p:=⟨ob,0,none⟩) HOB2.out.lt (by rintro ⟨a,ha,h⟩;have:=(HA2.out a ha).1;simp only at h;omega)).trans co1;have hf1:w6.frozen? ⟨ob,0,none⟩=false:=(hE6.blk HOB2.out (by rintro ⟨a,ha,h⟩;have:=(HA2.out a ha).1;omega)).frozen 0;have HS6:=zh hs6;have HE6:=zh hE6;have HO6:=zh ho6;clear hs6 hk6 ho6 hE6)
  have hk7:=keep_set w6 ob 0 (.slice A3 (n2+1) c3);have hE7:KeepF (fun k=>(∃a,A2=some a/\k=a.block)\/k=ob) Wb (w6.setCell ⟨ob,0,none⟩ (.slice A3 (n2+1) c3)):=(HE6.out.mono (fun _ h=>.inl h)).trans hk7 (fun k _ h=>.inr h);have hA6:∀a,A3=some a->w2.heap.size<=a.block/\a.block ≠ bx/\¬R' a.block:=fun a ha=>by
   rcases HO6.out a ha with ⟨a',h1,h2⟩ | h2
   ·rw[h2];exact HA2.out a' h1
   ·simp at h2;exact⟨by omega,by omega,fun hr=>by have:=hwl7 _ hr;omega⟩
  have hn3:(lo1++(pre++[x])).length=n2+1:=by rw[<-List.append_assoc,List.length_append,<-HN2.out];rfl
  have hmp:(lo1++(pre++[x])).map SE.val=(lo1++pre).map SE.val++[x.val]:=by rw[<-List.append_assoc,List.map_append];rfl
  refine⟨hE7.from2 _ (fun k o hf hk=>?k1),⟨A3,c3,?k2,?k3,hA6,?k4,?k7,?k8⟩,fromR_keep HRB.out hE7 (fun k hf=>?k5) (fun hf=>?k6)⟩
  case k1=>
   rcases hf with ⟨a,ha,rfl⟩ | rfl
   ·obtain⟨cur,hcur⟩:=HSB.out.obj ha;rw[hcur]at hk;cases hk;rfl
   ·rw[show Wb.heap[k]? = _ from HOB2.out]at hk;cases hk;rfl
  case k2=>
   rw[hn3]
   exact(HE6.out.blk HOB2.out (by rintro ⟨a,ha,h⟩;have:=(HA2.out a ha).1;omega)).set_ 0 _
  case k3=>
   rw[hn3,hmp]
   exact HS6.out.keepF hk7 (fun a ha e=>by have:=(hA6 a ha).1;omega)
  case k4=>
   exact HKK.out.trans hE7 (fun k hk h=>by
    rcases h with ⟨a,ha,rfl⟩ | rfl
    ·have:=(HA2.out a ha).1;omega
    ·omega)
  case k7=>
   exact hE7.blk HEB.out (by
    rintro (⟨a,ha,h⟩ | h)
    ·have:=(HA2.out a ha).1;omega
    ·omega)
  case k8=>
   exact HJB.out.trans hE7 (fun k hk h=>by
    rcases h with ⟨a,ha,rfl⟩ | rfl
    ·exact(HA2.out a ha).2.2
    ·exact HRO.out.1)
  case k5=>
   rcases hf with ⟨a,ha,rfl⟩ | rfl
   ·have:=(HA2.out a ha).1
    exact⟨fun hw=>by have:=hwl.1 _ hw;omega,(HA2.out a ha).2.2⟩
   ·exact⟨fun hw=>by have:=hwl.1 _ hw;omega,HRO.out.1⟩
  case k6=>
   rcases hf with ⟨a,ha,h⟩ | h
   ·exact(HA2.out a ha).2.1 h.symm
   ·omega
 case done=>
  rintro D i xs Wd hD hxs ⟨A2,c2,hO2,hS2,hA2,hK2,hE2,hJ2⟩ hR hDK;obtain⟨rest,hre,hxm,hTd⟩:=fromR_end hR hxs HQ7.out.2;have hro2:0<=s7.deliver_.2.C.ro/\s7.deliver_.2.C.ro<=1073741824:=by
   have:s7.deliver_.2.C=s.C:=HC7.out;rw[this];exact HP.out.2.2.1
  have HTM:=zh (rtimer_ok g s7.deliver_.2 W R' sb rest ub eb Wd hTd hro2);obtain⟨n2,hn2⟩:∃n,n=(lo1++xs).length:=⟨_,rfl⟩
  rw[<-hn2]at hO2 hS2;have HN2:=zh hn2;have HOB2:=zh hO2;have HSB:=zh hS2;have HA2:=zh hA2;have HKK:=zh hK2;have HEB:=zh hE2;have HJB:=zh hJ2;have HDK:=zh hDK;have HRE:=zh (And.intro hre hxm);clear hO2 hS2 hA2 hK2 hR hTd hDK hn2 hro2 hre hxm HH hxs hE2 hJ2;have hgo1:ob ≠ g/\ob+1 ≠ g:=by omega
  go_wp2_with (go_at_call 35;refine(HTM.out).mono ?_;rintro e W6 ⟨rfl,hT6,hk6⟩;have co1:W6.cell? ⟨ob,0,none⟩=some (.slice A2 n2 c2):=(hk6.blk HOB2.out hgo1.1).cell 0;have fo1:=(hk6.blk HOB2.out hgo1.1).frozen 0;have ce1:W6.cell? ⟨ob+1,0,none⟩=some (.int .i64 0):=(hk6.blk HEB.out hgo1.2).cell 0;have fe1:=(hk6.blk HEB.out hgo1.2).frozen 0;have HT6:=zh hT6;have HK6:=zh hk6;clear hT6 hk6);obtain⟨Wa,hWa⟩:∃X,X=W6.setCell ⟨ob,0,none⟩ (.slice A2 n2 c2):=⟨_,rfl⟩
  obtain⟨Wb,hWb⟩:∃X,X=Wa.setCell ⟨ob+1,0,none⟩ (.int .i64 0):=⟨_,rfl⟩
  have ka:KeepF (fun k=>k=ob) W6 Wa:=by rw[hWa];exact keep_set W6 ob 0 _
  have kb:KeepF (fun k=>k=ob+1) Wa Wb:=by rw[hWb];exact keep_set Wa (ob+1) 0 _
  have oa:Blk Wa ob 34 #[.slice A2 n2 c2]:=by rw[hWa];exact(HK6.out.blk HOB2.out hgo1.1).set_ 0 _
  have eb1:Blk Wb (ob+1) 31 #[.int .i64 0]:=by rw[hWb];exact(ka.blk (HK6.out.blk HEB.out hgo1.2) (by omega)).set_ 0 _
  have ob1:=kb.blk oa (by omega);rw[<-hWa,<-hWb];have kc:=KeepF.of_putObj Wb D (.deferred none);have hDb:Wb.heap[D]? = some (.deferred (some [])):=kb.same (ka.same (HK6.out.same HDK.out (by omega)) (by omega)) (by omega);refine⟨by simp,.inl ⟨_,_,rfl,run_takeDeferred hDb,?_⟩⟩;refine⟨by simp,.inr ⟨fun h=>(by cases h),_,_,32,#[.pointer (some ⟨ob+1,0,none⟩)],rfl,by simp[go_sem],fun g _=>trivial,?_⟩⟩;refine(recv1_idle ⟨ob+1,0,none⟩ _).mono ?_;rintro en u' w'' ⟨rfl,rfl,rfl⟩;have y1:(Wb.putObj D (.deferred none)).cell? ⟨ob,0,none⟩=some (.slice A2 n2 c2):=(kc.blk ob1 (by omega)).cell 0;have y2:(Wb.putObj D (.deferred none)).cell? ⟨ob+1,0,none⟩=some (.int .i64 0):=(kc.blk eb1 (by omega)).cell 0;have kall:KeepF (fun k=>k=ob\/k=ob+1\/k=D) W6 (Wb.putObj D (.deferred none)):=((ka.mono (fun _ h=>.inl h)).trans kb (fun _ _ h=>.inr (.inl h))).trans kc (fun _ _ h=>.inr (.inr h));have hDR:∀k,(k=ob\/k=ob+1\/k=D)->¬W k/\¬R' k:=fun k hk=>by
   rcases hk with rfl | rfl | rfl
   ·exact⟨HWO.out.1,HRO.out.1⟩
   ·exact⟨HWO.out.2.1,HRO.out.2⟩
   ·exact⟨fun hw=>by have:=hwl.1 _ hw;omega,fun hr=>by have:=hwl7 _ hr;omega⟩
  have hJ6:KeepF (fun k=>¬R' k) w7 (Wb.putObj D (.deferred none)):=(HJB.out.trans HK6.out (fun k _ e hr=>by rw[e]at hr;exact HDS.out _ HWG.out.1 hr)).trans kall (fun k _ e hr=>(hDR k e).2 hr);refine⟨.tuple #[.slice A2 n2 c2,.int .i64 0],by simp[results,Tryz.results11,go_sem,y1,y2],?_⟩;refine⟨R',rest,A2,c2,lo1++xs,by rw[HX,HN2.out],⟨?o1,?o2⟩,?o3,?o4,?o5,?o6,HR7.out.2,?o7⟩
  case o1=>
   rw[<-HN2.out];refine(HSB.out.keepF HK6.out (fun a ha e=>by have:=(HA2.out a ha).1;omega)).keepF kall (fun a ha e=>?_);have h1:=(HA2.out a ha).1;rcases e with e | e | e
   ·omega
   ·omega
   ·obtain⟨cur,hcur⟩:=HSB.out.obj ha;rw[e,HDK.out]at hcur;cases hcur
  case o2=>exact fun a ha=>by have:=(HA2.out a ha).1;have:=HZ4.out.2;omega
  case o3=>rw[HX,List.map_append,HRE.out.2,HM1.out.2.1]
  case o4=>
   intro x hx;rcases List.mem_append.1 hx with h | h
   ·exact(HP7.out x h).keep hJ6 (fun k hk hr=>hk hr)
   ·exact(HQ7.out.1 x (by rw[HRE.out.1];exact List.mem_append.2 (.inl h))).keep hJ6 (fun k hk hr=>hk hr)
  case o5=>
   rw[HX]
   exact HT6.out.keepF kall hDR
  case o6=>
   intro k hr;rcases HR7.out.1 k hr with h | h
   ·exact .inl h
   ·exact .inr (by have:=HZ4.out.1;have:=HZ4.out.2;omega)
  case o7=>
   exact(HKK.out.trans HK6.out (fun k _ e=>by rw[e];exact HWG.out.1)).trans kall (fun k hk e=>by omega)
end Go.Proofs.YtnadmdadcpemnaaGreat
namespace Go.Proofs.YtnadmdadcpemnaaGreat
set_option linter.unusedVariables false
set_option linter.unusedSimpArgs false
open Go.RowKit
attribute [local go_sem ↓] Go.wp_at_zero Go.wp_at_succ
theorem rvalid_ok (c:Cfg) (w:World):Calls Tryz.prog 38 #[.agg c.arr] w fun e w'=>e=.returned (.bool (decide c.Valid))/\Below w.heap.size w w':=by
 have h0:c.arr[0]? = some (.int .i64 c.b):=c.arr_at (by decide);have h1:c.arr[1]? = some (.int .i64 c.d):=c.arr_at (by decide);have h2:c.arr[37]? = some (.int .i64 c.ds):=c.arr_at (by decide);have h3:c.arr[38]? = some (.int .i64 c.ro):=c.arr_at (by decide);have HV:=zh (show c.Valid↔(0<=c.b/\c.b<=31/\(c.d=0\/c.d=1)/\0<=c.ds/\c.ds<=1073741824/\0<=c.ro/\c.ro<=1073741824)from Iff.rfl);obtain⟨V,hV⟩:∃V,V=decide c.Valid:=⟨_,rfl⟩
 have HD:=zh (show V=true↔c.Valid from by rw[hV];exact decide_eq_true_iff);obtain⟨Z,hZ⟩:∃Z,Z=c.arr:=⟨_,rfl⟩
 rw[<-hV];rw[<-hZ]at h0 h1 h2 h3 ⊢;obtain⟨b,hb⟩:∃b,b=c.b:=⟨_,rfl⟩
 obtain⟨d,hd⟩:∃d,d=c.d:=⟨_,rfl⟩
 obtain⟨ds,hds⟩:∃ds,ds=c.ds:=⟨_,rfl⟩
 obtain⟨ro,hro⟩:∃ro,ro=c.ro:=⟨_,rfl⟩
 rw[<-hb]at h0 HV;rw[<-hd]at h1 HV;rw[<-hds]at h2 HV;rw[<-hro]at h3 HV;clear hZ hV hb hd hds hro;go_enter Tryz.func38,Tryz.ntmps38;go_upto_region 1 with (fail)
 refine wp_let (fun W=>Blk W w.heap.size 25 Z/\Below w.heap.size w W) ⟨Blk.new _ _ _,(Below.refl _ w).alloc (Nat.le_refl _) _⟩ ?_;rintro W1 ⟨b1,b2⟩;have x0:=(b1.cell 0).trans h0;have x1:=(b1.cell 1).trans h1;have x2:=(b1.cell 37).trans h2;have x3:=(b1.cell 38).trans h3;have HB:=zh b2;clear b1 b2 h0 h1 h2 h3;have hout:∀r:Bool,(r=true↔(0<=b/\b<=31/\(d=0\/d=1)/\0<=ds/\ds<=1073741824/\0<=ro/\ro<=1073741824))->r=V:=fun r hr=>by
  rw[Bool.eq_iff_iff,hr,HD.out,HV.out]
 have HO:=zh hout;clear hout;by_cases c0:b < 0
 ·go_wp2;go_ret
  exact⟨ret_bool (HO.out _ ⟨fun h=>(by cases h),fun h=>(by omega)⟩),HB.out⟩
 by_cases c1:31 < b
 ·go_wp2;go_ret
  exact⟨ret_bool (HO.out _ ⟨fun h=>(by cases h),fun h=>(by omega)⟩),HB.out⟩
 by_cases c2:d=0\/d=1;rotate_left
 ·have d0:(d != 0)=true:=by simp;omega
  have d1:(d != 1)=true:=by simp;omega
  go_wp2;go_ret
  exact⟨ret_bool (HO.out _ ⟨fun h=>(by cases h),fun h=>(by omega)⟩),HB.out⟩
 have hdd:(d != 0 && d != 1)=false:=by rcases c2 with rfl | rfl<;>rfl
 by_cases c3:0<=ds;rotate_left
 ·rcases c2 with rfl | rfl<;>
  ·go_wp2;go_ret
   exact⟨ret_bool (HO.out _ ⟨fun h=>(by cases h),fun h=>(by omega)⟩),HB.out⟩
 by_cases c4:ds<=1073741824;rotate_left
 ·rcases c2 with rfl | rfl<;>
  ·go_wp2;go_ret
   exact⟨ret_bool (HO.out _ ⟨fun h=>(by cases h),fun h=>(by omega)⟩),HB.out⟩
 by_cases c5:0<=ro;rotate_left
 ·rcases c2 with rfl | rfl<;>
  ·go_wp2;go_ret
   exact⟨ret_bool (HO.out _ ⟨fun h=>(by cases h),fun h=>(by omega)⟩),HB.out⟩
 by_cases c6:ro<=1073741824;rotate_left
 ·rcases c2 with rfl | rfl<;>
  ·go_wp2;go_ret
   exact⟨ret_bool (HO.out _ ⟨fun h=>(by cases h),fun h=>(by omega)⟩),HB.out⟩
 rcases c2 with rfl | rfl<;>
 ·go_wp2;go_ret
  exact⟨ret_bool (HO.out _ ⟨fun h=>⟨by omega,by omega,by simp,by omega,by omega,by omega,by omega⟩,fun h=>rfl⟩),HB.out⟩
theorem rexp_new (w:World):Calls Tryz.prog 40 #[] w fun e w'=>e=.returned (.pointer (some ⟨w.heap.size,0,none⟩))/\Below w.heap.size w w'/\∃t cs,Blk w' w.heap.size t cs/\IsEx (.cells cs t (0,0)):=by
 go_enter Tryz.func40,Tryz.ntmps40;go_wp2;go_ret
 exact⟨rfl,(Below.refl _ w).alloc (Nat.le_refl _) _,_,_,Blk.new _ _ _,⟨_,rfl,rfl⟩⟩
theorem rwhole0 (w:World):Calls Tryz.prog 39 #[.agg #[.int .u64 0,.int .u64 0,.slice none 0 0]] w fun e w'=>e=.returned (.bool true)/\Below w.heap.size w w':=by
 go_enter Tryz.func39,Tryz.ntmps39;go_wp2;refine wp_loop_rounds 1 ?_;rw[rounds_succ];go_wp2;go_ret
 exact⟨rfl,(Below.refl _ w).alloc (Nat.le_refl _) _⟩
def rnewS (cf:Cfg) (X:Obj):RS:=⟨cf,0,0,0,[],false,0,0,[kArr cf.key],X,0⟩
def RxNew (cf:Cfg) (B:Nat) (w:World) (v:Value) (W:World):Prop:=
 ∃g mS mU eb X,v=.pointer (some ⟨g,0,none⟩)/\RxM W g (rnewS cf X) (fun k=>k=g\/k=mS\/k=mU\/k=eb) (fun _=>False) mS [] mU eb/\B<=g/\B<=mS/\B<=mU/\B<=eb/\Below B w W
theorem rxnew_intro (cf:Cfg) (W:World) (g mS mU eb:Nat) (t:TypeId) (cs:Array Value) (hB:Blk W g 83 (rArr cf.arr 0 0 0 mS false 0 0 mU eb 0)) (hS:SM W mS []) (hU:UK W mU [kArr cf.key]) (hC:Blk W eb t cs) (hCX:Hid (IsEx (.cells cs t (0,0)))) (h1:eb ≠ g) (h2:mS ≠ mU) :
  RxM W g (rnewS cf (.cells cs t (0,0))) (fun k=>k=g\/k=mS\/k=mU\/k=eb) (fun _=>False) mS [] mU eb:=by
 have e1:eb ≠ mS:=fun e=>by
  obtain⟨es,c,h,_⟩:=hS;rw[<-e,show W.heap[eb]? = _ from hC]at h;cases h
 have e2:eb ≠ mU:=fun e=>by
  obtain⟨es,c,h,_⟩:=hU;rw[<-e,show W.heap[eb]? = _ from hC]at h;cases h
 exact⟨hB,rfl,hS,List.Pairwise.nil,fun e he=>(by cases he),hU,hC,fun e he=>(by cases he),
  ⟨by show(0:Int)<=0/\(0:Int) < 1073741824;decide,by show(0:Int)<=0/\(0:Int)<=0;decide,by show(0:Int)<=4294967296;decide,by show(0:Int)<=0/\(0:Int)<=0;decide,by show(0:Int)<=0/\(0:Int)<=2147483648;decide,by show(0:Int)<=0/\(0:Int) < 4611686018427387904;decide⟩,
  .inl rfl,.inr (.inl rfl),.inr (.inr (.inl rfl)),.inr (.inr (.inr rfl)),h1,e1,e2,h2,fun k _ hr=>hr,fun k hk=>(by
   rcases hk with rfl | rfl | rfl | rfl
   ·exact hB.lt
   ·exact hS.lt
   ·exact hU.lt
   ·exact hC.lt),fun k hr=>hr.elim,fun _=>hCX.out⟩
end Go.Proofs.YtnadmdadcpemnaaGreat

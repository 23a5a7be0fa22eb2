import Derived.Test.YtnadmdadcpemnaaGreatMWKq
import Derived.Test.YtnadmdadcpemnaaGreatMCFq
import Derived.BigQuiet
import Derived.Test.YtnadmdadcpemnaaGreatB1q
set_option maxRecDepth 100000
set_option maxHeartbeats 6400000
namespace Go.Proofs.YtnadmdadcpemnaaGreat
set_option linter.unusedVariables false
set_option linter.unusedSimpArgs false
open Go.RowKit
attribute [local go_sem ↓] Go.wp_at_zero Go.wp_at_succ
theorem Tryz.vinfoBool:(Tryz.prog.info? 4).map (fun i=>(i.zero,i.size,i.bytes))=some (some (.bool false),1,1):=by kernel_rfl
theorem src_bool (w:World) (b:Bool):Src Tryz.prog 1 105 (.slice (some ⟨w.heap.size,0,none⟩) 1 1) 1 [.bool b] (w.alloc (.cells #[.bool b] 4)):=
 Src.ofSlice _ Tryz.underlying105 ⟨w.heap.size,0,none⟩ 1 1 _ (by rfl) (fun j u hu=>by
  rw[Addr.add_lit,Nat.zero_add,(Blk.new w 4 #[.bool b]).cell j];simpa using hu) (by intro u hu;simp at hu;rcases hu with rfl;rfl)
def statL (s:RS) (k:Nat):List Value:=(List.range k).map fun(j:Nat)=>.bool (stored s.L (s.deliver+1+(j:Int)))
theorem statL_succ (s:RS) (k:Nat):statL s (k+1)=statL s k++[.bool (stored s.L (s.deliver+1+(k:Int)))]:=by
 unfold statL;rw[List.range_succ,List.map_append]
 rfl
def RS.statN (s:RS):Nat:=(s.next-s.deliver-1).toNat
theorem vstatus_ok (h:Nat) (s:RS) (U:List (Nat->Int)) (M R:Nat->Prop) (A:Option Addr) (c:Nat) (l:List SE) (uA:Option Addr) (uc:Nat) (w:World) (m:VM w h s U M R A c l uA uc) (hl:l.length<=250) :
  Calls Tryz.prog 59 #[.pointer (some ⟨h,0,none⟩)] w fun e w'=>∃A2 c2,e=.returned (.slice A2 s.statN c2)/\SL w' 4 1 A2 s.statN c2 (statL s s.statN)/\(∀a,A2=some a->w.heap.size<=a.block)/\Below w.heap.size w w':=by
 obtain⟨i0,hi0,hz0,hz1,hz2⟩:=info_parts Tryz.vinfoBool;have HM:=zh m;have hd0:=m.ok.deliver;have hn0:=m.ok.next;have HHAS:=zh (fun f V (hb:Below w.heap.size w V)=>vhas_ok h s U M R A c l uA uc V (m.below hb) hl f);have c40:=m.cd;obtain⟨d,hd⟩:∃d,d=s.deliver:=⟨_,rfl⟩
 obtain⟨nx,hnx⟩:∃nx,nx=s.next:=⟨_,rfl⟩
 obtain⟨N,hN⟩:∃N,N=s.statN:=⟨_,rfl⟩
 rw[<-hd]at hd0 c40;rw[<-hnx]at hd0 hn0;have HC:=zh (show ∀V,Below w.heap.size w V->V.cell? ⟨h,41,none⟩=some (.int .u64 nx)from fun V hb=>by rw[hnx];exact(m.below hb).cnx);have hNN:N=(nx-d-1).toNat:=by rw[hN,hnx,hd];rfl
 have HNN:=zh hNN;have HND:=zh (And.intro hd (And.intro hnx hN));have HB0:=zh (And.intro hd0 hn0);rw[<-hN];have wd:IntKind.u64.wrap (d+1)=d+1:=by simp[IntKind.wrap_u64];omega
 clear m hl hd hnx hN hNN;go_enter Tryz.func59,Tryz.ntmps59;go_wp2;go_loopw [3,4] (fun v3 v4 wr=>∃(k:Nat) (A2:Option Addr) (c2:Nat),k<=N/\v3=.slice A2 k c2/\v4=.int .u64 (d+1+(k:Int))/\SL wr 4 1 A2 k c2 (statL s k)/\(∀a,A2=some a->w.heap.size<=a.block)/\Below w.heap.size w wr) (fun v3 _ _=>N-sliceLen v3)
 case atStart=>exact⟨0,none,0,Nat.zero_le _,rfl,by simp,SL.nil _ _ _,fun a ha=>(by cases ha),Below.refl _ _⟩
 case round=>
  obtain⟨k,A2,c2,hk,rfl,rfl,hs,hA,hB⟩:=hrel;have HS:=zh hs;have HA:=zh hA;have HB:=zh hB;have y41:=HC.out wr hB;obtain⟨q,hq⟩:∃q,q=d+1+(k:Int):=⟨_,rfl⟩
  rw[<-hq];have HQ:=zh hq;have hk32:k<=4294967296:=by have:=HNN.out;have:=HB0.out;omega
  have wq:IntKind.u64.wrap (q+1)=q+1:=by have:=HB0.out;simp[IntKind.wrap_u64];omega
  have HHQ:=zh (HHAS.out q wr hB);obtain⟨b,hb⟩:∃b,b=stored s.L q:=⟨_,rfl⟩
  rw[<-hb]at HHQ;have HBB:=zh hb;clear hs hA hB hq hb;by_cases hlt:q < nx
  ·have hkN:k < N:=by have:=HNN.out;have:=HB0.out;have:=HQ.out;omega
   go_wp2_with (first
    | (go_at_call 78;refine HHQ.out.mono ?_;rintro e w9 ⟨rfl,hw9⟩;have hw9:=hw9.symm;subst hw9)
    | (refine wpList_sl_append rfl _ _ 105 105 rfl _ 4 i0 (.bool false) 1 1 Tryz.underlying105 hi0 hz0 hz1 hz2 rfl A2 k c2 (statL s k) rfl (HS.out.next (bnA _)) (.slice (some ⟨wr.heap.size,0,none⟩) 1 1) rfl 1 [.bool b] (src_bool wr b) (by omega) (by unfold maxLen;omega) (by omega) ?_;intro A6 c6 V6 hs6 hk6 ha6;have HS6:=zh hs6;have HK6:=zh hk6;have HA6:=zh ha6;clear hs6 hk6 ha6))
   have hbA:Below wr.heap.size wr (wr.alloc (.cells #[.bool b] 4)):=bnA _;have hB6:Below w.heap.size w V6:=KeepF.below (HB.out.trans (hbA.mono HB.out.size)) HK6.out (fun q ⟨a,ha,e⟩=>by rw[e];exact HA.out a ha) (Nat.le_trans HB.out.size hbA.size);have HB6:=zh hB6;have HAA:=zh (show ∀a,A6=some a->w.heap.size<=a.block from fun a ha=>by
    rcases HA6.out a ha with ⟨a',e,h1⟩ | h1
    ·rw[h1];exact HA.out a' e
    ·exact Nat.le_trans (Nat.le_trans HB.out.size hbA.size) h1)
   have hS7:SL V6 4 1 A6 (k+1) c6 (statL s (k+1)):=by
    rw[statL_succ,<-HND.out.1,<-HQ.out,<-HBB.out]
    exact HS6.out
   have HS7:=zh hS7;clear hbA hB6 hS7;go_roundw
   case rel=>exact⟨k+1,A6,c6,hkN,rfl,by rw[HQ.out];push_cast;rw[Int.add_assoc],HS7.out,HAA.out,HB6.out⟩
   case measure=>simp only[sliceLen];omega
  ·have hkN:k=N:=by have:=HNN.out;have:=HB0.out;have:=HQ.out;omega
   have HKN:=zh hkN;clear hkN hk;go_wp2;go_ret;refine⟨A2,c2,by rw[<-HKN.out];rfl,by rw[<-HKN.out];exact HS.out,HA.out,HB.out⟩
def VResO (cf:Cfg) (X:Obj) (d nx:Int) (lx:List SE) (R:Nat->Prop) (w:World) (e:Ending) (w':World):Prop:=
 ∃rb A' c' nb M',e=.returned (.pointer (some ⟨rb,0,none⟩))/\VM w' rb ⟨cf,0,d,nx,lx.map (·.v),false,0,0,[kArr cf.key],X,0⟩ [cf.key] M' R A' c' lx (some ⟨nb,0,none⟩) 1/\(∀k,M' k->w.heap.size<=k)/\Below w.heap.size w w'
theorem vm_new {cf:Cfg} {X:Obj} {d nx:Int} {lx:List SE} {R:Nat->Prop} {w w':World} {rb nb c':Nat} {A':Option Addr} (hd:0<=d/\d<=nx/\nx<=4294967296) (hB:Below w.heap.size w w') (hR:Blk w' rb 97 (vArr cf.arr 0 d nx (.slice A' lx.length c') false 0 0 (.slice (some ⟨nb,0,none⟩) 1 1) 0)) (hN:Blk w' nb 23 (kArr cf.key)) (hs:SL w' 77 2 A' lx.length c' (lx.flatMap SE.cc)) (hA:∀a,A'=some a->w.heap.size<=a.block) (hrb:w.heap.size<=rb) (hnb:w.heap.size<=nb) (hris:Rising lx) (hrng:∀e,e∈lx->d<=e.v.ct/\e.v.ct < nx) (hpk:∀e,e∈lx->Pkt w R e.A e.v.n e.c e.v.z) (hRl:∀k,R k->k < w.heap.size) :
  VResO cf X d nx lx R w (.returned (.pointer (some ⟨rb,0,none⟩))) w':=by
 have hlt:∀a,A'=some a->a.block < w'.heap.size:=fun a ha=>by
  obtain⟨cur,hc⟩:=hs.obj ha
  exact(Array.getElem?_eq_some_iff.1 hc).1
 have h1:=hR.lt;have h2:=hN.lt;have h3:=hB.size;refine⟨rb,A',c',nb,fun k=>k=rb\/k=nb\/∃a,A'=some a/\k=a.block,rfl,⟨hR,rfl,rfl,hs,?_,hris,hrng,fun e he=>(hpk e he).keep (KeepF.of_below (F:=fun _=>False) hB) (fun _ hf=>hf.elim),⟨⟨Int.le_refl _,by show(0:Int) < 1073741824;decide⟩,⟨hd.1,hd.2.1⟩,hd.2.2,⟨Int.le_refl _,by show(0:Int)<=nx;omega⟩,⟨Int.le_refl _,by show(0:Int)<=2147483648;decide⟩,⟨Int.le_refl _,by show(0:Int) < 4611686018427387904;decide⟩⟩,.inl rfl,fun a ha=>.inr (.inr ⟨a,ha,rfl⟩),fun a ha=>.inr (.inl (by cases ha;rfl)),fun k hm hr=>?_,fun k hm=>?_,fun k hr=>Nat.lt_of_lt_of_le (hRl k hr) h3⟩,fun k hm=>?_,hB⟩
 ·have h4:([cf.key]:List (Nat->Int)).flatMap vkCells=(kArr cf.key).toList:=by simp[vkCells]
  rw[h4]
  exact⟨rfl,.inr ⟨nb,0,_,rfl,hN,Nat.le_refl _,by unfold maxLen;decide,Nat.le_refl _,fun j hj=>by rw[Nat.zero_add,Array.getElem?_toList]⟩⟩
 ·have:=hRl k hr;rcases hm with h | h | ⟨a,ha,h⟩
  ·omega
  ·omega
  ·have:=hA a ha;omega
 ·rcases hm with h | h | ⟨a,ha,h⟩
  ·omega
  ·omega
  ·have:=hlt a ha;omega
 ·rcases hm with h | h | ⟨a,ha,h⟩
  ·omega
  ·omega
  ·have:=hA a ha;omega
theorem vresume_ok (cf:Cfg) (X:Obj) (d nx:Int) (A0:Option Addr) (lx:List SE) (c0:Nat) (R:Nat->Prop) (w:World) (hd:0<=d/\d<=nx/\nx<=4294967296) (hl:lx.length<=1000000) (hs:∀W,Below w.heap.size w W->Src Tryz.prog 2 44 (.slice A0 lx.length c0) lx.length (lx.flatMap SE.cc) W) (hris:Rising lx) (hrng:∀e,e∈lx->d<=e.v.ct/\e.v.ct < nx) (hpk:∀e,e∈lx->Pkt w R e.A e.v.n e.c e.v.z) (hRl:∀k,R k->k < w.heap.size) :
  Calls Tryz.prog 24 #[.agg cf.arr,.agg #[.int .u64 d,.int .u64 nx,.slice A0 lx.length c0]] w (VResO cf X d nx lx R w):=by
 obtain⟨i0,hi0,hz9,hz1,hz2⟩:=info_parts Tryz.infoCnt;obtain⟨m,hm⟩:∃m,m=lx.length:=⟨_,rfl⟩
 have HFIN:=zh (fun(w':World) (rb nb c':Nat) (A':Option Addr) hB hR hN hs' hA hrb hnb=>vm_new (cf:=cf) (X:=X) (lx:=lx) (R:=R) (w:=w) (w':=w') (rb:=rb) (nb:=nb) (c':=c') (A':=A') hd hB hR hN hs' hA hrb hnb hris hrng hpk hRl);have HS:=zh hs;have HLM:=zh hl;rw[<-hm]at HFIN HS HLM ⊢;have HKR0:=zh (show ∀j,j < 16->cf.arr[2+j]? = (kArr cf.key)[j]? from fun j hj=>by
  rw[cf.arr_at (by omega),kArr_at _ j hj];unfold Cfg.cell;rw[if_neg (by omega),if_neg (by omega),if_pos (by omega),show 2+j-2=j by omega])
 have HZE:=zh (cfgLit_eq cf);obtain⟨Z,hZ⟩:∃Z,Z=cf.arr:=⟨_,rfl⟩
 rw[<-hZ]at HKR0 HZE ⊢;have HU:=zh Tryz.underlying25;have HUK:=zh Tryz.underlying23;have HS39:Hid ((Tryz.prog.info? 25).map (·.size)=some (cfgLit cf).toList.length):=zh infoPd;have HS16:Hid ((Tryz.prog.info? 23).map (·.size)=some (kArr cf.key).toList.length):=zh (by kernel_rfl);clear hs hl hris hrng hpk hRl hZ hm hd;go_enter Tryz.func24,Tryz.ntmps24;go_upto_region 1 with (fail)
 refine wp_let (fun W=>Blk W w.heap.size 25 Z/\Blk W (w.heap.size+1) 46 #[.int .u64 d,.int .u64 nx,.slice A0 m c0]/\Below w.heap.size w W) ⟨(Blk.new _ _ _).alloc _,blk_atZ _ _ _ _ (by simp),((Below.refl _ w).alloc (Nat.le_refl _) _).alloc (by simp) _⟩ ?_;rintro W1 ⟨b1,b2,b3⟩;obtain⟨zb,hzb⟩:∃zb,zb=w.heap.size:=⟨_,rfl⟩
 rw[<-hzb]at b1 b2 ⊢;have HZB:=zh hzb;have B3:=zh (show Below w.heap.size w W1 from by exact b3);have h1lt:zb+1 < W1.heap.size:=b2.lt;obtain⟨B0,hB0⟩:∃B0,B0=W1.heap.size:=⟨_,rfl⟩
 have HB0:=zh hB0;have HWB:=zh (show w.heap.size<=B0 by rw[hB0];exact b3.size);have HZR:=zh (show ∀W,Below B0 W1 W->W.rangeAt zb 0 (cfgLit cf).toList from fun W hW=>((b1.below hW (by omega)).range _ (by rw[HZE.out])));have HKR:=zh (show ∀W,Below B0 W1 W->W.rangeAt zb 2 (kArr cf.key).toList from fun W hW j v hv=>by
  have hj:j < 16:=by have:=(List.getElem?_eq_some_iff.1 hv).1;simpa[kArr]using this
  rw[(b1.below hW (by omega)).cell (2+j),HKR0.out j hj];simpa using hv)
 have HSR:=zh (show ∀W,Below B0 W1 W->W.cell? ⟨zb+1,0,none⟩=some (.int .u64 d)/\W.cell? ⟨zb+1,1,none⟩=some (.int .u64 nx)/\W.cell? ⟨zb+1,2,none⟩=some (.slice A0 m c0)from fun W hW=>⟨(b2.below hW (by omega)).cell 0,(b2.below hW (by omega)).cell 1,(b2.below hW (by omega)).cell 2⟩);have HSW:=zh (show ∀W,Below B0 W1 W->Src Tryz.prog 2 44 (.slice A0 m c0) m (lx.flatMap SE.cc) W from fun W hW=>HS.out W (B3.out.trans (hW.mono (by rw[hB0];exact b3.size))));have HBW:=zh (show ∀W,Below B0 W1 W->Below w.heap.size w W from fun W hW=>B3.out.trans (hW.mono (by rw[hB0];exact b3.size)));clear b1 b2 b3 hzb hB0;obtain⟨w0,hw0⟩:∃w0,w0=W1.drew:=⟨_,rfl⟩
 have hb0:Below B0 W1 w0:=by rw[hw0,HB0.out];exact(Below.refl _ W1).drew
 have hz0:B0<=w0.heap.size:=by rw[hw0,HB0.out];exact Nat.le_refl _
 refine wp_region_held_drew (S:=fun w'=>Below B0 W1 w') (by kernel_rfl) (by rw[<-hw0];exact hb0) (fun hHeld=>?_);rw[<-hw0];clear hw0 hHeld;have hHeld:=hb0;refine' tkY (i:=0) (x:=some 5) (v:=_) rfl (yieldsIf_load_mid (by rfl) _ _ rfl zb 0 rfl (cfgLit cf).toList _ (fun w h=>HZR.out w h) HU.out rfl HS39.out) ?_;refine tkS (i:=1) (x:=some 6) (v:=.pointer (some ⟨zb+1,0,none⟩)) rfl ?_;refine tkY (i:=2) (x:=some 7) (v:=.int .u64 d) rfl (.inl ⟨by rfl,fun W hW=>(by have:=(HSR.out W hW).1;go_simp)⟩) ?_;refine tkS (i:=3) (x:=some 8) (v:=.pointer (some ⟨zb+1,1,none⟩)) rfl ?_;refine tkY (i:=4) (x:=some 9) (v:=.int .u64 nx) rfl (.inl ⟨by rfl,fun W hW=>(by have:=(HSR.out W hW).2.1;go_simp)⟩) ?_;refine tkS (i:=5) (x:=some 10) (v:=.pointer (some ⟨zb+1,2,none⟩)) rfl ?_;refine tkY (i:=6) (x:=some 11) (v:=.slice A0 m c0) rfl (.inl ⟨by rfl,fun W hW=>(by have:=(HSR.out W hW).2.2;go_simp)⟩) ?_;refine tkS (i:=8) (x:=some 13) (v:=.pointer (some ⟨zb,2,none⟩)) rfl ?_;refine' tkY (i:=9) (x:=some 14) (v:=_) rfl (yieldsIf_load_mid (by rfl) _ _ rfl zb 2 rfl (kArr cf.key).toList _ (fun w h=>HKR.out w h) HUK.out rfl HS16.out) ?_;refine wpAnyH_ready (rs:=[7,10]) (by kernel_rfl) (by simp) ?_;refine AllReadyH.cons (o:=⟨some 12,_,_,_,_,_⟩) rfl (fun K hK=>?_) (AllReadyH.cons (o:=⟨some 15,_,_,_,_,_⟩) rfl (fun K hK=>?_) AllReadyH.nil)
 ·skip;rw[if_pos (by rfl)];refine wp_sl_appendA _ _ 44 44 rfl w0 77 i0 (.agg #[.int .u32 0,.slice none 0 0]) 2 32 Tryz.underlying44 hi0 hz9 hz1 hz2 rfl none 0 0 [] rfl (SL.nil _ _ _) (.slice A0 m c0) rfl m (lx.flatMap SE.cc) (HSW.out _ hHeld) (by have:=HLM.out;unfold maxLen;omega) (by have:=HLM.out;omega) (fun A8 c8 w1 hs8 hk8 ha8=>?_);rw[Nat.zero_add,List.nil_append]at hs8;rw[Nat.zero_add];have hbk:Below w0.heap.size w0 w1:=KeepF.below (Below.refl _ _) hk8 (fun q ⟨a,ha,_⟩=>by cases ha) (Nat.le_refl _);have hA8:∀a,A8=some a->B0<=a.block:=fun a ha=>(ha8 a ha).elim (fun⟨a',h1,_⟩=>by cases h1) (fun h1=>Nat.le_trans hz0 h1);have hH2:Below B0 W1 w1:=hHeld.trans (hbk.mono hz0);have hz0:B0<=w1.heap.size:=Nat.le_trans hz0 hbk.size;refine hK.out _ _ hH2 (fun hHeld=>?_);clear hK K hH2 hbk hk8 ha8
  try simp only[Act.put,qa,qb,qc]
  refine rdH (i:=10) (x:=some 15) rfl fun K hK=>?_;refine wp_vbuild_key _ rfl _ (kArr cf.key) cf.key (by go_simp) rfl ?_;obtain⟨w2,hv⟩:∃X,X=w1.alloc (.cells (kArr cf.key) 23):=⟨_,rfl⟩
  obtain⟨nb,hnb⟩:∃nb,nb=w1.heap.size:=⟨_,rfl⟩
  have hNB:Blk w2 nb 23 (kArr cf.key):=by rw[hv,hnb];exact Blk.new _ _ _
  have hbk:Below w1.heap.size w1 w2:=by rw[hv];exact bnA _
  have hH2:Below B0 W1 w2:=hHeld.trans (hbk.mono hz0);have hnb0:B0<=nb:=by omega
  have hz0:B0<=w2.heap.size:=Nat.le_trans hz0 hbk.size;have hs8:=hs8.next hbk;rw[<-hv,<-hnb];clear hv hnb;refine hK.out _ _ hH2 (fun hHeld=>?_);clear hK K hH2 hbk
  try simp only[Act.put,qa,qb,qc]
  refine tkY (i:=11) (x:=some 16) (v:=.agg (vArr cf.arr 0 d nx (.slice A8 m c8) false 0 0 (.slice (some ⟨nb,0,none⟩) 1 1) 0)) rfl (.inl ⟨by rfl,fun W hW=>(by kernel_rfl)⟩) ?_;refine rdH (i:=12) (x:=some 17) rfl fun K hK=>?_;go_simp;obtain⟨wv,hv⟩:∃wv,wv=w2.alloc (.cells (vArr cf.arr 0 d nx (.slice A8 m c8) false 0 0 (.slice (some ⟨nb,0,none⟩) 1 1) 0) 97):=⟨_,rfl⟩
  obtain⟨rb,hrb⟩:∃rb,rb=w2.heap.size:=⟨_,rfl⟩
  have hR:Blk wv rb 97 (vArr cf.arr 0 d nx (.slice A8 m c8) false 0 0 (.slice (some ⟨nb,0,none⟩) 1 1) 0):=by rw[hv,hrb];exact Blk.new _ _ _
  have hbk:Below w2.heap.size w2 wv:=by rw[hv];exact bnA _
  have hH2:Below B0 W1 wv:=hHeld.trans (hbk.mono hz0);have hN2:=hNB.below hbk hNB.lt;have hs9:=hs8.next hbk;have hrb0:B0<=rb:=by omega
  rw[<-hv,<-hrb];refine hK.out _ _ hH2 (fun hHeld=>?_);clear hK K hv
  try simp only[Act.put,qa,qb,qc]
  refine tkR (i:=13) (x:=some 4) (v:=.pointer (some ⟨rb,0,none⟩)) rfl ?_;refine wpAnyH_done (by kernel_rfl) ?_ _;go_wp2;go_ret
  exact HFIN.out wv rb nb c8 A8 (HBW.out _ hH2) hR hN2 hs9 (fun a ha=>Nat.le_trans HWB.out (hA8 a ha)) (Nat.le_trans HWB.out hrb0) (Nat.le_trans HWB.out hnb0)
 ·skip;rw[if_pos (by rfl)];refine wp_vbuild_key _ rfl _ (kArr cf.key) cf.key (by go_simp) rfl ?_;obtain⟨w1,hv⟩:∃X,X=w0.alloc (.cells (kArr cf.key) 23):=⟨_,rfl⟩
  obtain⟨nb,hnb⟩:∃nb,nb=w0.heap.size:=⟨_,rfl⟩
  have hNB:Blk w1 nb 23 (kArr cf.key):=by rw[hv,hnb];exact Blk.new _ _ _
  have hbk:Below w0.heap.size w0 w1:=by rw[hv];exact bnA _
  have hH2:Below B0 W1 w1:=hHeld.trans (hbk.mono hz0);have hnb0:B0<=nb:=by omega
  have hz0:B0<=w1.heap.size:=Nat.le_trans hz0 hbk.size;rw[<-hv,<-hnb];clear hv hnb;refine hK.out _ _ hH2 (fun hHeld=>?_);clear hK K hH2 hbk
  try simp only[Act.put,qa,qb,qc]
  refine rdH (i:=7) (x:=some 12) rfl fun K hK=>?_;refine wp_sl_appendA _ _ 44 44 rfl w1 77 i0 (.agg #[.int .u32 0,.slice none 0 0]) 2 32 Tryz.underlying44 hi0 hz9 hz1 hz2 rfl none 0 0 [] rfl (SL.nil _ _ _) (.slice A0 m c0) rfl m (lx.flatMap SE.cc) (HSW.out _ hHeld) (by have:=HLM.out;unfold maxLen;omega) (by have:=HLM.out;omega) (fun A8 c8 w2 hs8 hk8 ha8=>?_);rw[Nat.zero_add,List.nil_append]at hs8;rw[Nat.zero_add];have hbk:Below w1.heap.size w1 w2:=KeepF.below (Below.refl _ _) hk8 (fun q ⟨a,ha,_⟩=>by cases ha) (Nat.le_refl _);have hA8:∀a,A8=some a->B0<=a.block:=fun a ha=>(ha8 a ha).elim (fun⟨a',h1,_⟩=>by cases h1) (fun h1=>Nat.le_trans hz0 h1);have hH2:Below B0 W1 w2:=hHeld.trans (hbk.mono hz0);have hz0:B0<=w2.heap.size:=Nat.le_trans hz0 hbk.size;have hNB:=hNB.below hbk hNB.lt;refine hK.out _ _ hH2 (fun hHeld=>?_);clear hK K hH2 hbk hk8 ha8
  try simp only[Act.put,qa,qb,qc]
  refine tkY (i:=11) (x:=some 16) (v:=.agg (vArr cf.arr 0 d nx (.slice A8 m c8) false 0 0 (.slice (some ⟨nb,0,none⟩) 1 1) 0)) rfl (.inl ⟨by rfl,fun W hW=>(by kernel_rfl)⟩) ?_;refine rdH (i:=12) (x:=some 17) rfl fun K hK=>?_;go_simp;obtain⟨wv,hv⟩:∃wv,wv=w2.alloc (.cells (vArr cf.arr 0 d nx (.slice A8 m c8) false 0 0 (.slice (some ⟨nb,0,none⟩) 1 1) 0) 97):=⟨_,rfl⟩
  obtain⟨rb,hrb⟩:∃rb,rb=w2.heap.size:=⟨_,rfl⟩
  have hR:Blk wv rb 97 (vArr cf.arr 0 d nx (.slice A8 m c8) false 0 0 (.slice (some ⟨nb,0,none⟩) 1 1) 0):=by rw[hv,hrb];exact Blk.new _ _ _
  have hbk:Below w2.heap.size w2 wv:=by rw[hv];exact bnA _
  have hH2:Below B0 W1 wv:=hHeld.trans (hbk.mono hz0);have hN2:=hNB.below hbk hNB.lt;have hs9:=hs8.next hbk;have hrb0:B0<=rb:=by omega
  rw[<-hv,<-hrb];refine hK.out _ _ hH2 (fun hHeld=>?_);clear hK K hv
  try simp only[Act.put,qa,qb,qc]
  refine tkR (i:=13) (x:=some 4) (v:=.pointer (some ⟨rb,0,none⟩)) rfl ?_;refine wpAnyH_done (by kernel_rfl) ?_ _;go_wp2;go_ret
  exact HFIN.out wv rb nb c8 A8 (HBW.out _ hH2) hR hN2 hs9 (fun a ha=>Nat.le_trans HWB.out (hA8 a ha)) (Nat.le_trans HWB.out hrb0) (Nat.le_trans HWB.out hnb0)
theorem vstate_yes (A:Option Addr) (m c:Nat) (d nx:Int) (ct:Nat->Int) (PA:Nat->Option Addr) (pn pc:Nat->Nat) (z:Nat->Nat->Int) (w:World) (hd:0<=d) (hm:m<=1000000) (h:Cnts w A m ct PA pn pc z) (hw:Whole d nx m ct pn) :
  Calls Tryz.prog 23 #[.agg #[.int .u64 d,.int .u64 nx,.slice A m c]] w fun e w'=>e=.returned (.bool true)/\Below w.heap.size w w':=by
 obtain⟨⟨h1,h2,h3⟩,h4,h5⟩:=hw;have HC:=zh h;have HE:=zh h4;have HT:=zh h5;have t1:decide (nx < d)=false:=decide_eq_false (by omega);have t2:decide ((4294967296:Int) < nx)=false:=decide_eq_false (by omega);have t3:decide ((2048:Int) < nx-d)=false:=decide_eq_false (by omega);have tw:IntKind.u64.wrap (nx-d)=nx-d:=by simp[IntKind.wrap_u64];omega
 clear h h4 h5;go_enter Tryz.func23,Tryz.ntmps23;go_upto_region 1 with (fail)
 refine wp_let (fun W=>Blk W w.heap.size 46 #[.int .u64 d,.int .u64 nx,.slice A m c]/\Below w.heap.size w W) ⟨Blk.new _ _ _,(Below.refl _ w).alloc (Nat.le_refl _) _⟩ ?_;rintro W1 ⟨b1,b2⟩;obtain⟨xb,hxb⟩:∃xb,xb=w.heap.size:=⟨_,rfl⟩
 rw[<-hxb]at b1 ⊢;have HX:=zh hxb;have x0:=b1.cell 0;have x1:=b1.cell 1;have x2:=b1.cell 2;simp at x0 x1 x2;have HB:=zh b1;have HBB:=zh (show Below w.heap.size w W1 from by exact b2);clear b1 b2 hxb;go_wp2;go_loopw [3] (fun v3 wr=>∃k:Nat,k<=m/\v3=.int .i64 k/\Below W1.heap.size W1 wr) (fun v3 _=>m-(intOf v3).toNat)
 case atStart=>exact⟨0,by omega,rfl,Below.refl _ _⟩
 case round=>
  obtain⟨k,hk,rfl,hBr⟩:=hrel;have BR:=zh hBr;have XR:=HB.out.below hBr HB.out.lt;have y0:=XR.cell 0;have y1:=XR.cell 1;have y2:=XR.cell 2;simp at y0 y1 y2;clear hBr XR x0 x1 x2;have k0:(0:Int)<=(k:Int):=by omega
  by_cases hlt:k < m
  ·obtain⟨e1,e2,e3,e4⟩:=HE.out k hlt;obtain⟨lb,lo,rfl,hlb,hlc⟩:=HC.out.at_ (by omega);have HRD:=zh (show ∀i,i < m->wr.cell? ⟨lb,lo+i*2,none⟩=some (.int .u32 (ct i))/\wr.cell? ⟨lb,lo+i*2+1,none⟩=some (.slice (PA i) (pn i) (pc i))from fun i hi=>⟨(BR.out.cell (p:=⟨lb,lo+i*2,none⟩) (Nat.lt_of_lt_of_le hlb HBB.out.size)).trans ((HBB.out.cell (p:=⟨lb,lo+i*2,none⟩) hlb).trans (hlc i hi).1),(BR.out.cell (p:=⟨lb,lo+i*2+1,none⟩) (Nat.lt_of_lt_of_le hlb HBB.out.size)).trans ((HBB.out.cell (p:=⟨lb,lo+i*2+1,none⟩) hlb).trans (hlc i hi).2)⟩);obtain⟨q0,q1⟩:=HRD.out k hlt;obtain⟨r0,r1⟩:=HC.out.rng k hlt;obtain⟨x,hx⟩:∃x,x=ct k:=⟨_,rfl⟩
   obtain⟨q,hq⟩:∃q,q=pn k:=⟨_,rfl⟩
   obtain⟨qi,hqi⟩:∃qi:Int,((q:Nat):Int)=qi:=⟨_,rfl⟩
   have k1:(k:Int) < (m:Int):=by omega
   rw[<-hx]at e1 e2 r0 r1 q0;rw[<-hq]at e3 e4 q1;have wx:IntKind.u64.wrap x=x:=by simp[IntKind.wrap_u64];omega
   have s2:decide (nx<=x)=false:=decide_eq_false (by omega);have s3:decide (qi < 1)=false:=decide_eq_false (by omega);have s4:decide ((9000:Int) < qi)=false:=decide_eq_false (by omega);have wk:IntKind.i64.wrap ((k:Int)+1)=(k:Int)+1:=by simp[IntKind.wrap_i64];omega
   have HXC:=zh hx;clear hx hq hlc;by_cases hk0:k=0
   ·have s1:decide (x<=d)=false:=decide_eq_false (by rw[show lastOf d ct k=d by rw[hk0];rfl]at e1;omega);have s5:decide (0 < k)=false:=decide_eq_false (by omega);clear e1 e2 e3 e4 hk0;go_upto_region 7 with (fail)
    go_quiet (fail);go_wp2;go_roundw
    case rel=>exact⟨k+1,by omega,by go_num,by first | exact BR.out | exact below_drewN BR.out _⟩
    case measure=>simp[intOf];omega
   ·obtain⟨j,hj⟩:∃j,j=k-1:=⟨_,rfl⟩
    have hl:lastOf d ct k=ct j:=by rw[show k=j+1 by omega];rfl
    obtain⟨e5,e6,e7,e8⟩:=HE.out j (by omega);obtain⟨p0,p1⟩:=HRD.out j (by omega);have hdx:d < ct j:=by
     have:∀i,i < m->d < ct i:=fun i=>by
      induction i with
      | zero=>intro hi;exact(HE.out 0 hi).1
      | succ i ih=>intro hi;have h1:=ih (by omega);have h2:=(HE.out (i+1) hi).1;rw[lastOf_succ]at h2;omega
     exact this j (by omega)
    obtain⟨xp,hxp⟩:∃xp,xp=ct j:=⟨_,rfl⟩
    rw[hl]at e1;rw[<-hxp]at e1 p0 hdx;have s1:decide (x<=d)=false:=decide_eq_false (by omega);have s5:decide (0 < k)=true:=decide_eq_true (by omega);have s6:decide (x<=xp)=false:=decide_eq_false (by omega);have wj:IntKind.i64.wrap ((k:Int)-1)=((j:Nat):Int):=by simp[IntKind.wrap_i64];omega
    have j0:(0:Int)<=(j:Int):=by omega
    have j1:(j:Int) < (m:Int):=by omega
    clear e1 e2 e3 e4 hk0 hj hl e5 e6 e7 e8 p1 hdx hxp;go_upto_region 7 with (fail)
    go_quiet (fail);go_wp2;go_roundw
    case rel=>exact⟨k+1,by omega,by go_num,by first | exact BR.out | exact below_drewN BR.out _⟩
    case measure=>simp[intOf];omega
  ·have hkm:k=m:=by omega
   have k1:¬(k:Int) < (m:Int):=by omega
   have HKM:=zh hkm;clear hkm hlt;by_cases s0:nx=d
   ·have e0:(nx == d)=true:=by simpa using s0
    have HS0:=zh s0;clear s0;go_wp2;go_ret
    exact⟨by first | rfl | simp,HBB.out.trans (BR.out.mono HBB.out.size)⟩
   ·have e0:(nx == d)=false:=by simpa using s0
    obtain⟨s1,s2⟩:lastOf d ct m=nx-1/\d < lastOf d ct m:=by rcases HT.out with h | h;exact absurd h s0;exact h
    have hm0:m ≠ 0:=fun e=>by rw[e]at s2;exact absurd s2 (Int.lt_irrefl _)
    obtain⟨j,hj⟩:∃j,j=m-1:=⟨_,rfl⟩
    have hl:lastOf d ct m=ct j:=by rw[show m=j+1 by omega];rfl
    obtain⟨lb,lo,rfl,hlb,hlc⟩:=HC.out.at_ hm0;have p0:wr.cell? ⟨lb,lo+j*2,none⟩=some (.int .u32 (ct j)):=(BR.out.cell (p:=⟨lb,lo+j*2,none⟩) (Nat.lt_of_lt_of_le hlb HBB.out.size)).trans ((HBB.out.cell (p:=⟨lb,lo+j*2,none⟩) hlb).trans (hlc j (by omega)).1);obtain⟨r0,r1⟩:=HC.out.rng j (by omega);obtain⟨x,hx⟩:∃x,x=ct j:=⟨_,rfl⟩
    rw[hl]at s1;rw[<-hx]at p0 r0 r1 s1;have wx:IntKind.u64.wrap x=x:=by simp[IntKind.wrap_u64];omega
    have wn:IntKind.u64.wrap (nx-1)=nx-1:=by simp[IntKind.wrap_u64];omega
    have wj:IntKind.i64.wrap ((m:Int)-1)=((j:Nat):Int):=by simp[IntKind.wrap_i64];omega
    have j0:(0:Int)<=(j:Int):=by omega
    have j1:(j:Int) < (m:Int):=by omega
    have s5:decide (0 < m)=true:=decide_eq_true (by omega);have s6:(x == nx-1)=true:=by simpa using s1
    clear s0 s1 s2 hm0 hj hl hlc hx;go_upto_region 11 with (fail)
    go_quiet (fail);go_wp2;go_ret
    exact⟨by first | rfl | simp,by first | exact HBB.out.trans (BR.out.mono HBB.out.size) | exact HBB.out.trans ((below_drewN BR.out _).mono HBB.out.size)⟩
theorem vstate_no (A:Option Addr) (m c:Nat) (d nx:Int) (ct:Nat->Int) (PA:Nat->Option Addr) (pn pc:Nat->Nat) (z:Nat->Nat->Int) (w:World) (hd:0<=d) (hnx:0<=nx/\nx < 18446744073709551616) (hd2:d < 18446744073709551616) (hm:m<=1000000) (h:Cnts w A m ct PA pn pc z) (hw:¬Whole d nx m ct pn) :
  Calls Tryz.prog 23 #[.agg #[.int .u64 d,.int .u64 nx,.slice A m c]] w fun e w'=>e=.returned (.bool false)/\Below w.heap.size w w':=by
 have HC:=zh h;by_cases h1:nx < d
 ·have t1:decide (nx < d)=true:=decide_eq_true h1;clear h hw h1;go_enter Tryz.func23,Tryz.ntmps23;go_upto_region 1 with (fail)
  refine wp_let (fun W=>Blk W w.heap.size 46 #[.int .u64 d,.int .u64 nx,.slice A m c]/\Below w.heap.size w W) ⟨Blk.new _ _ _,(Below.refl _ w).alloc (Nat.le_refl _) _⟩ ?_;rintro W1 ⟨b1,b2⟩;obtain⟨xb,hxb⟩:∃xb,xb=w.heap.size:=⟨_,rfl⟩
  rw[<-hxb]at b1 ⊢;have HX:=zh hxb;have x0:=b1.cell 0;have x1:=b1.cell 1;have x2:=b1.cell 2;simp at x0 x1 x2;have HB:=zh b1;have HBB:=zh (show Below w.heap.size w W1 from by exact b2);clear b1 b2 hxb;go_wp2;go_ret
  exact⟨by first | rfl | simp,HBB.out⟩
 have t1:decide (nx < d)=false:=decide_eq_false h1;by_cases h2:(4294967296:Int) < nx
 ·have t2:decide ((4294967296:Int) < nx)=true:=decide_eq_true h2;clear h hw h1 h2;go_enter Tryz.func23,Tryz.ntmps23;go_upto_region 1 with (fail)
  refine wp_let (fun W=>Blk W w.heap.size 46 #[.int .u64 d,.int .u64 nx,.slice A m c]/\Below w.heap.size w W) ⟨Blk.new _ _ _,(Below.refl _ w).alloc (Nat.le_refl _) _⟩ ?_;rintro W1 ⟨b1,b2⟩;obtain⟨xb,hxb⟩:∃xb,xb=w.heap.size:=⟨_,rfl⟩
  rw[<-hxb]at b1 ⊢;have HX:=zh hxb;have x0:=b1.cell 0;have x1:=b1.cell 1;have x2:=b1.cell 2;simp at x0 x1 x2;have HB:=zh b1;have HBB:=zh (show Below w.heap.size w W1 from by exact b2);clear b1 b2 hxb;go_wp2;go_ret
  exact⟨by first | rfl | simp,HBB.out⟩
 have t2:decide ((4294967296:Int) < nx)=false:=decide_eq_false h2;have tw:IntKind.u64.wrap (nx-d)=nx-d:=by simp[IntKind.wrap_u64];omega
 by_cases h3:(2048:Int) < nx-d
 ·have t3:decide ((2048:Int) < nx-d)=true:=decide_eq_true h3;clear h hw h1 h2 h3;go_enter Tryz.func23,Tryz.ntmps23;go_upto_region 1 with (fail)
  refine wp_let (fun W=>Blk W w.heap.size 46 #[.int .u64 d,.int .u64 nx,.slice A m c]/\Below w.heap.size w W) ⟨Blk.new _ _ _,(Below.refl _ w).alloc (Nat.le_refl _) _⟩ ?_;rintro W1 ⟨b1,b2⟩;obtain⟨xb,hxb⟩:∃xb,xb=w.heap.size:=⟨_,rfl⟩
  rw[<-hxb]at b1 ⊢;have HX:=zh hxb;have x0:=b1.cell 0;have x1:=b1.cell 1;have x2:=b1.cell 2;simp at x0 x1 x2;have HB:=zh b1;have HBB:=zh (show Below w.heap.size w W1 from by exact b2);clear b1 b2 hxb;go_wp2;go_ret
  exact⟨by first | rfl | simp,HBB.out⟩
 have t3:decide ((2048:Int) < nx-d)=false:=decide_eq_false h3;have HW:=zh (show ¬((∀k,k < m->elemOk d nx ct pn k)/\tailOk d nx m ct)from fun hx=>hw ⟨⟨by omega,by omega,by omega⟩,hx.1,hx.2⟩);have HH:=zh (show d<=nx/\nx<=4294967296 by omega);clear h hw h1 h2 h3;go_enter Tryz.func23,Tryz.ntmps23;go_upto_region 1 with (fail)
 refine wp_let (fun W=>Blk W w.heap.size 46 #[.int .u64 d,.int .u64 nx,.slice A m c]/\Below w.heap.size w W) ⟨Blk.new _ _ _,(Below.refl _ w).alloc (Nat.le_refl _) _⟩ ?_;rintro W1 ⟨b1,b2⟩;obtain⟨xb,hxb⟩:∃xb,xb=w.heap.size:=⟨_,rfl⟩
 rw[<-hxb]at b1 ⊢;have HX:=zh hxb;have x0:=b1.cell 0;have x1:=b1.cell 1;have x2:=b1.cell 2;simp at x0 x1 x2;have HB:=zh b1;have HBB:=zh (show Below w.heap.size w W1 from by exact b2);clear b1 b2 hxb;go_wp2;go_loopw [3] (fun v3 wr=>∃k:Nat,k<=m/\v3=.int .i64 k/\Below W1.heap.size W1 wr/\(∀i,i < k->elemOk d nx ct pn i)) (fun v3 _=>m-(intOf v3).toNat)
 case atStart=>exact⟨0,by omega,rfl,Below.refl _ _,fun i hi=>absurd hi (Nat.not_lt_zero _)⟩
 case round=>
  obtain⟨k,hk,rfl,hBr,hel⟩:=hrel;have HEL:=zh hel;clear hel;have hh:=HH.out;have BR:=zh hBr;have XR:=HB.out.below hBr HB.out.lt;have y0:=XR.cell 0;have y1:=XR.cell 1;have y2:=XR.cell 2;simp at y0 y1 y2;clear hBr XR x0 x1 x2;have k0:(0:Int)<=(k:Int):=by omega
  by_cases hlt:k < m
  ·obtain⟨lb,lo,rfl,hlb,hlc⟩:=HC.out.at_ (by omega);have HRD:=zh (show ∀i,i < m->wr.cell? ⟨lb,lo+i*2,none⟩=some (.int .u32 (ct i))/\wr.cell? ⟨lb,lo+i*2+1,none⟩=some (.slice (PA i) (pn i) (pc i))from fun i hi=>⟨(BR.out.cell (p:=⟨lb,lo+i*2,none⟩) (Nat.lt_of_lt_of_le hlb HBB.out.size)).trans ((HBB.out.cell (p:=⟨lb,lo+i*2,none⟩) hlb).trans (hlc i hi).1),(BR.out.cell (p:=⟨lb,lo+i*2+1,none⟩) (Nat.lt_of_lt_of_le hlb HBB.out.size)).trans ((HBB.out.cell (p:=⟨lb,lo+i*2+1,none⟩) hlb).trans (hlc i hi).2)⟩);obtain⟨q0,q1⟩:=HRD.out k hlt;obtain⟨r0,r1⟩:=HC.out.rng k hlt;obtain⟨x,hx⟩:∃x,x=ct k:=⟨_,rfl⟩
   obtain⟨q,hq⟩:∃q,q=pn k:=⟨_,rfl⟩
   obtain⟨qi,hqi⟩:∃qi:Int,((q:Nat):Int)=qi:=⟨_,rfl⟩
   have k1:(k:Int) < (m:Int):=by omega
   have r9:(k:Int) < 1000000:=by omega
   rw[<-hx]at r0 r1 q0;rw[<-hq]at q1;have wx:IntKind.u64.wrap x=x:=by simp[IntKind.wrap_u64];omega
   have wk:IntKind.i64.wrap ((k:Int)+1)=(k:Int)+1:=by simp[IntKind.wrap_i64];omega
   have HXC:=zh (And.intro hx hq);have HGO:=zh (show d < x->lastOf d ct k < x->x < nx->1<=q->q<=9000->∀i,i < k+1->elemOk d nx ct pn i from fun _ g1 g2 g3 g4 i hi=>by
    rcases (by omega:i < k\/i=k)with hi | rfl
    ·exact HEL.out i hi
    ·exact⟨by rw[<-hx];exact g1,by rw[<-hx];exact g2,by rw[<-hq];exact g3,by rw[<-hq];exact g4⟩)
   clear hx hq hlc;by_cases hk0:k=0
   ·have s5:decide (0 < k)=false:=decide_eq_false (by omega);have HLA:=zh (show lastOf d ct k=d by rw[hk0];rfl);clear hk0;by_cases g1:x<=d
    ·have s1:decide (x<=d)=true:=decide_eq_true g1;clear g1;go_upto_region 7 with (fail)
     go_quiet (fail);go_wp2;go_ret
     exact⟨by first | rfl | simp,by first | exact HBB.out.trans (BR.out.mono HBB.out.size) | exact HBB.out.trans ((below_drewN BR.out _).mono HBB.out.size)⟩
    have s1:decide (x<=d)=false:=decide_eq_false g1;by_cases g2:nx<=x
    ·have s2:decide (nx<=x)=true:=decide_eq_true g2;clear g1 g2;go_upto_region 7 with (fail)
     go_quiet (fail);go_wp2;go_ret
     exact⟨by first | rfl | simp,by first | exact HBB.out.trans (BR.out.mono HBB.out.size) | exact HBB.out.trans ((below_drewN BR.out _).mono HBB.out.size)⟩
    have s2:decide (nx<=x)=false:=decide_eq_false g2;by_cases g3:qi < 1
    ·have s3:decide (qi < 1)=true:=decide_eq_true g3;clear g1 g2 g3;go_upto_region 7 with (fail)
     go_quiet (fail);go_wp2;go_ret
     exact⟨by first | rfl | simp,by first | exact HBB.out.trans (BR.out.mono HBB.out.size) | exact HBB.out.trans ((below_drewN BR.out _).mono HBB.out.size)⟩
    have s3:decide (qi < 1)=false:=decide_eq_false g3;by_cases g4:(9000:Int) < qi
    ·have s4:decide ((9000:Int) < qi)=true:=decide_eq_true g4;clear g1 g2 g3 g4;go_upto_region 7 with (fail)
     go_quiet (fail);go_wp2;go_ret
     exact⟨by first | rfl | simp,by first | exact HBB.out.trans (BR.out.mono HBB.out.size) | exact HBB.out.trans ((below_drewN BR.out _).mono HBB.out.size)⟩
    have s4:decide ((9000:Int) < qi)=false:=decide_eq_false g4;have HALL:=zh (HGO.out (by omega) (by rw[HLA.out];omega) (by omega) (by omega) (by omega));clear g1 g2 g3 g4;go_upto_region 7 with (fail)
    go_quiet (fail);go_wp2;go_roundw
    case rel=>exact⟨k+1,by omega,by go_num,by first | exact BR.out | exact below_drewN BR.out _,HALL.out⟩
    case measure=>simp[intOf];omega
   ·obtain⟨j,hj⟩:∃j,j=k-1:=⟨_,rfl⟩
    have HLA:=zh (show lastOf d ct k=ct j by rw[show k=j+1 by omega];rfl);obtain⟨p0,p1⟩:=HRD.out j (by omega);obtain⟨xp,hxp⟩:∃xp,xp=ct j:=⟨_,rfl⟩
    rw[<-hxp]at p0 HLA;have s5:decide (0 < k)=true:=decide_eq_true (by omega);have wj:IntKind.i64.wrap ((k:Int)-1)=((j:Nat):Int):=by simp[IntKind.wrap_i64];omega
    have j0:(0:Int)<=(j:Int):=by omega
    have j1:(j:Int) < (m:Int):=by omega
    clear hk0 hj p1 hxp;by_cases g1:x<=d
    ·have s1:decide (x<=d)=true:=decide_eq_true g1;clear g1;go_upto_region 7 with (fail)
     go_quiet (fail);go_wp2;go_ret
     exact⟨by first | rfl | simp,by first | exact HBB.out.trans (BR.out.mono HBB.out.size) | exact HBB.out.trans ((below_drewN BR.out _).mono HBB.out.size)⟩
    have s1:decide (x<=d)=false:=decide_eq_false g1;by_cases g2:nx<=x
    ·have s2:decide (nx<=x)=true:=decide_eq_true g2;clear g1 g2;go_upto_region 7 with (fail)
     go_quiet (fail);go_wp2;go_ret
     exact⟨by first | rfl | simp,by first | exact HBB.out.trans (BR.out.mono HBB.out.size) | exact HBB.out.trans ((below_drewN BR.out _).mono HBB.out.size)⟩
    have s2:decide (nx<=x)=false:=decide_eq_false g2;by_cases g5:x<=xp
    ·have s6:decide (x<=xp)=true:=decide_eq_true g5;clear g1 g2 g5;go_upto_region 7 with (fail)
     go_quiet (fail);go_wp2;go_ret
     exact⟨by first | rfl | simp,by first | exact HBB.out.trans (BR.out.mono HBB.out.size) | exact HBB.out.trans ((below_drewN BR.out _).mono HBB.out.size)⟩
    have s6:decide (x<=xp)=false:=decide_eq_false g5;by_cases g3:qi < 1
    ·have s3:decide (qi < 1)=true:=decide_eq_true g3;clear g1 g2 g3;go_upto_region 7 with (fail)
     go_quiet (fail);go_wp2;go_ret
     exact⟨by first | rfl | simp,by first | exact HBB.out.trans (BR.out.mono HBB.out.size) | exact HBB.out.trans ((below_drewN BR.out _).mono HBB.out.size)⟩
    have s3:decide (qi < 1)=false:=decide_eq_false g3;by_cases g4:(9000:Int) < qi
    ·have s4:decide ((9000:Int) < qi)=true:=decide_eq_true g4;clear g1 g2 g3 g4;go_upto_region 7 with (fail)
     go_quiet (fail);go_wp2;go_ret
     exact⟨by first | rfl | simp,by first | exact HBB.out.trans (BR.out.mono HBB.out.size) | exact HBB.out.trans ((below_drewN BR.out _).mono HBB.out.size)⟩
    have s4:decide ((9000:Int) < qi)=false:=decide_eq_false g4;have HALL:=zh (HGO.out (by omega) (by rw[HLA.out];omega) (by omega) (by omega) (by omega));clear g1 g2 g3 g4 g5;go_upto_region 7 with (fail)
    go_quiet (fail);go_wp2;go_roundw
    case rel=>exact⟨k+1,by omega,by go_num,by first | exact BR.out | exact below_drewN BR.out _,HALL.out⟩
    case measure=>simp[intOf];omega
  ·have hkm:k=m:=by omega
   have k1:¬(k:Int) < (m:Int):=by omega
   have HTL:=zh (show ¬tailOk d nx m ct from fun ht=>HW.out ⟨fun i hi=>HEL.out i (by omega),ht⟩);have HKM:=zh hkm;clear hkm hlt;have s0:¬nx=d:=fun e=>HTL.out (.inl e);have e0:(nx == d)=false:=by simpa using s0
   by_cases hm0:m=0
   ·have s5:decide (0 < m)=false:=decide_eq_false (by omega);clear s0 hm0;go_upto_region 11 with (fail)
    go_quiet (fail);go_wp2;go_ret
    exact⟨by first | rfl | simp,by first | exact HBB.out.trans (BR.out.mono HBB.out.size) | exact HBB.out.trans ((below_drewN BR.out _).mono HBB.out.size)⟩
   ·obtain⟨j,hj⟩:∃j,j=m-1:=⟨_,rfl⟩
    have hl:lastOf d ct m=ct j:=by rw[show m=j+1 by omega];rfl
    obtain⟨lb,lo,rfl,hlb,hlc⟩:=HC.out.at_ hm0;have p0:wr.cell? ⟨lb,lo+j*2,none⟩=some (.int .u32 (ct j)):=(BR.out.cell (p:=⟨lb,lo+j*2,none⟩) (Nat.lt_of_lt_of_le hlb HBB.out.size)).trans ((HBB.out.cell (p:=⟨lb,lo+j*2,none⟩) hlb).trans (hlc j (by omega)).1);obtain⟨r0,r1⟩:=HC.out.rng j (by omega);have hdx:d < ct j:=by
     have:∀i,i < m->d < ct i:=fun i=>by
      induction i with
      | zero=>intro hi;exact(HEL.out 0 (by have:=HKM.out;omega)).1
      | succ i ih=>intro hi;have h1:=ih (by omega);have h2:=(HEL.out (i+1) (by have:=HKM.out;omega)).1;rw[lastOf_succ]at h2;omega
     exact this j (by omega)
    have hne:¬ct j=nx-1:=fun e=>HTL.out (.inr ⟨by rw[hl];exact e,by rw[hl];exact hdx⟩);obtain⟨x,hx⟩:∃x,x=ct j:=⟨_,rfl⟩
    rw[<-hx]at p0 r0 r1 hne hdx;have wx:IntKind.u64.wrap x=x:=by simp[IntKind.wrap_u64];omega
    have wn:IntKind.u64.wrap (nx-1)=nx-1:=by simp[IntKind.wrap_u64];omega
    have wj:IntKind.i64.wrap ((m:Int)-1)=((j:Nat):Int):=by simp[IntKind.wrap_i64];omega
    have j0:(0:Int)<=(j:Int):=by omega
    have j1:(j:Int) < (m:Int):=by omega
    have s5:decide (0 < m)=true:=decide_eq_true (by omega);have s6:(x == nx-1)=false:=by simpa using hne
    clear s0 hne hm0 hj hl hlc hx hdx;go_upto_region 11 with (fail)
    go_quiet (fail);go_wp2;go_ret
    exact⟨by first | rfl | simp,by first | exact HBB.out.trans (BR.out.mono HBB.out.size) | exact HBB.out.trans ((below_drewN BR.out _).mono HBB.out.size)⟩
end Go.Proofs.YtnadmdadcpemnaaGreat

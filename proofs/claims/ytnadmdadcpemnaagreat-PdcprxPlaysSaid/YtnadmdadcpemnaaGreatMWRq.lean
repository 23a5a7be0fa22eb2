import Derived.Test.YtnadmdadcpemnaaGreatMWNq
import Derived.Test.YtnadmdadcpemnaaGreatMDAq
import Derived.Test.YtnadmdadcpemnaaGreatMZMq
import Derived.Test.YtnadmdadcpemnaaGreatMSDq
import Derived.Deep.MidRow
import Derived.Test.YtnadmdadcpemnaaGreatB1q
set_option maxRecDepth 100000
set_option maxHeartbeats 3200000
namespace Go.Proofs.YtnadmdadcpemnaaGreat
set_option linter.unusedVariables false
set_option linter.unusedSimpArgs false
open Go.RowKit
attribute [local go_sem ↓] Go.wp_at_zero Go.wp_at_succ
theorem rstatus_made (h:Nat) (s:RS) (W R:Nat->Prop) (sb:Nat) (l:List SE) (ub eb:Nat) (w:World) (m:RxM w h s W R sb l ub eb) :
  Calls Tryz.prog 58 #[.pointer (some ⟨h,0,none⟩)] w fun e w'=>∃A2 c2,e=.returned (.tuple #[.int .u64 s.deliver,.slice A2 s.statN c2])/\SL w' 4 1 A2 s.statN c2 (statL s s.statN)/\(∀a,A2=some a->w.heap.size<=a.block)/\Below w.heap.size w w':=by
 obtain⟨i0,hi0,hz0,hz1,hz2⟩:=info_parts Tryz.vinfoBool;have HM:=zh m;have hd0:=m.ok.deliver;have hn0:=m.ok.next;have HHAS:=zh (show ∀f V,Below w.heap.size w V->0<=f->f < 18446744073709551616->∃v,(Instr.lookup 78 (.map (some sb)) (.int .u64 f) true).run Tryz.prog V=.ok (.tuple #[v,.bool (stored s.L f)]) V from fun f V hb h0 h1=>⟨_,by rw[smap_get (m.below hb).st h0 h1,<-m.lv,stored_find]⟩);have HMD:=zh (rxmade_ok h w (m.hi 0));have HDC:=zh (show ∀V,Below w.heap.size w V->V.cell? ⟨h,41,none⟩=some (.int .u64 s.deliver)/\V.cell? ⟨h,43,none⟩=some (.map (some sb))from fun V hb=>⟨(m.below hb).cdeliver,(m.below hb).cs⟩);have c40:=m.cdeliver;obtain⟨d,hd⟩:∃d,d=s.deliver:=⟨_,rfl⟩
 obtain⟨nx,hnx⟩:∃nx,nx=s.next:=⟨_,rfl⟩
 obtain⟨N,hN⟩:∃N,N=s.statN:=⟨_,rfl⟩
 rw[<-hd]at hd0 c40 HDC ⊢;rw[<-hnx]at hd0 hn0;have HC:=zh (show ∀V,Below w.heap.size w V->V.cell? ⟨h,42,none⟩=some (.int .u64 nx)from fun V hb=>by rw[hnx];exact(m.below hb).cnext);have hNN:N=(nx-d-1).toNat:=by rw[hN,hnx,hd];rfl
 have HNN:=zh hNN;have HND:=zh (And.intro hd (And.intro hnx hN));have HB0:=zh (And.intro hd0 hn0);rw[<-hN];have wd:IntKind.u64.wrap (d+1)=d+1:=by simp[IntKind.wrap_u64];omega
 clear m hd hnx hN hNN;go_enter Tryz.func58,Tryz.ntmps58;go_wp2_with (go_at_call 43;refine HMD.out.mono ?_;rintro e w9 ⟨rfl,hw9⟩;subst hw9);go_loopw [4,5] (fun v3 v4 wr=>∃(k:Nat) (A2:Option Addr) (c2:Nat),k<=N/\v3=.slice A2 k c2/\v4=.int .u64 (d+1+(k:Int))/\SL wr 4 1 A2 k c2 (statL s k)/\(∀a,A2=some a->w.heap.size<=a.block)/\Below w.heap.size w wr) (fun v3 _ _=>N-sliceLen v3)
 case atStart=>exact⟨0,none,0,Nat.zero_le _,rfl,by simp,SL.nil _ _ _,fun a ha=>(by cases ha),Below.refl _ _⟩
 case round=>
  obtain⟨k,A2,c2,hk,rfl,rfl,hs,hA,hB⟩:=hrel;have HS:=zh hs;have HA:=zh hA;have HB:=zh hB;have y42:=HC.out wr hB;have y43:=(HDC.out wr hB).2;have y41:=(HDC.out wr hB).1;obtain⟨q,hq⟩:∃q,q=d+1+(k:Int):=⟨_,rfl⟩
  rw[<-hq];have HQ:=zh hq;have hk32:k<=4294967296:=by have:=HNN.out;have:=HB0.out;omega
  have wq:IntKind.u64.wrap (q+1)=q+1:=by have:=HB0.out;simp[IntKind.wrap_u64];omega
  obtain⟨lv,hlk⟩:=HHAS.out q wr hB (by have:=HB0.out;have:=HQ.out;omega) (by have:=HB0.out;have:=HQ.out;have:=HNN.out;omega);obtain⟨b,hb⟩:∃b,b=stored s.L q:=⟨_,rfl⟩
  rw[<-hb]at hlk;have HBB:=zh hb;clear hs hA hB hq hb;by_cases hlt:q < nx
  ·have hkN:k < N:=by have:=HNN.out;have:=HB0.out;have:=HQ.out;omega
   go_wp2_with (first
    | fail
    | (refine wpList_sl_append rfl _ _ 105 105 rfl _ 4 i0 (.bool false) 1 1 Tryz.underlying105 hi0 hz0 hz1 hz2 rfl A2 k c2 (statL s k) rfl (HS.out.next (bnA _)) (.slice (some ⟨wr.heap.size,0,none⟩) 1 1) rfl 1 [.bool b] (src_bool wr b) (by omega) (by unfold maxLen;omega) (by omega) ?_;intro A6 c6 V6 hs6 hk6 ha6;have HS6:=zh hs6;have HK6:=zh hk6;have HA6:=zh ha6;clear hs6 hk6 ha6))
   have hbA:Below wr.heap.size wr (wr.alloc (.cells #[.bool b] 4)):=bnA _;have hB6:Below w.heap.size w V6:=KeepF.below (HB.out.trans (hbA.mono HB.out.size)) HK6.out (fun q ⟨a,ha,e⟩=>by rw[e];exact HA.out a ha) (Nat.le_trans HB.out.size hbA.size);have HB6:=zh hB6;have HAA:=zh (show ∀a,A6=some a->w.heap.size<=a.block from fun a ha=>by
    rcases HA6.out a ha with ⟨a',e,h1⟩ | h1
    ·rw[h1];exact HA.out a' e
    ·exact Nat.le_trans (Nat.le_trans HB.out.size hbA.size) h1)
   have hS7:SL V6 4 1 A6 (k+1) c6 (statL s (k+1)):=by
    rw[statL_succ,<-HND.out.1,<-HQ.out,<-HBB.out]
    exact HS6.out
   have HS7:=zh hS7;clear hbA hB6 hS7;go_roundw
   case rel=>exact⟨k+1,A6,c6,hkN,rfl,by rw[HQ.out];push_cast;rw[Int.add_assoc],HS7.out,HAA.out,HB6.out⟩
   case measure=>simp only[sliceLen];omega
  ·have hkN:k=N:=by have:=HNN.out;have:=HB0.out;have:=HQ.out;omega
   have HKN:=zh hkN;clear hkN hk;go_wp2;go_ret2;refine⟨A2,c2,by rw[<-HKN.out];rfl,by rw[<-HKN.out];exact HS.out,HA.out,HB.out⟩
theorem rconfig_made (g:Nat) (s:RS) (W R:Nat->Prop) (sb:Nat) (l:List SE) (ub eb:Nat) (w:World) (h:RxM w g s W R sb l ub eb):Calls Tryz.prog 57 #[.pointer (some ⟨g,0,none⟩)] w fun e w'=>e=.returned (.tuple #[.agg s.C.arr,.int .i64 0])/\Below w.heap.size w w':=by
 have HN:=zh (fun W hW=>rxmade_ok g W hW);have HRG:=zh (show ∀V,Below w.heap.size w V->V.rangeAt g 0 s.C.arr.toList from fun V hV j v hv=>by
  have hj:j < 39:=by have:=(List.getElem?_eq_some_iff.1 hv).1;rw[Array.length_toList,s.C.arr_size]at this;exact this
  rw[Nat.zero_add,(h.below hV).cC hj,<-hv,Array.getElem?_toList,s.C.arr_at hj])
 have H39:=zh (show ∀V,Below w.heap.size w V->V.cell? ⟨g,39,none⟩=some (.bool true)from fun V hV=>(h.below hV).hi 0);have HS:Hid ((Tryz.prog.info? 25).map (·.size)=some s.C.arr.size):=zh (by rw[s.C.arr_size];exact infoPd);have HSL:Hid ((Tryz.prog.info? 25).map (·.size)=some s.C.arr.toList.length):=zh (by rw[Array.length_toList,s.C.arr_size];exact infoPd);have HO:=zh s.C.arr_one;have HSZ:=zh s.C.arr_size;obtain⟨Z,hZ⟩:∃Z,Z=s.C.arr:=⟨_,rfl⟩
 rw[<-hZ]at HRG HS HSL HO HSZ ⊢;clear h hZ;go_enter Tryz.func57,Tryz.ntmps57;go_wp2_with (first
  | (go_at_call 43;refine(HN.out _ (H39.out _ ((Below.refl _ w).alloc (Nat.le_refl _) _))).mono ?_;rintro e w1 ⟨rfl,rfl⟩)
  | (refine wpList_load_mid rfl 25 _ rfl g 0 rfl Z.toList _ (HRG.out _ ((Below.refl _ w).alloc (Nat.le_refl _) _)) Tryz.underlying25 rfl HSL.out ?_)
  | (refine wpList_store_row rfl _ _ _ rfl w.heap.size Z rfl rfl 25 _ (Blk.new w _ _) HS.out (by rw[HSZ.out];rfl) HO.out ?_))
 refine bodyPost_ret (v:=.tuple #[.agg Z,.int .i64 0]) (results_cell_one (g:=w.heap.size) (t:=25) (fr:=(0,0)) Tryz.results57 _ _ Z _ rfl (Blk.setRow (Blk.new w _ _)) Tryz.underlying25 rfl HS.out _ rfl) rfl ⟨rfl,belowRow ((Below.refl _ w).alloc (Nat.le_refl _) _) (Nat.le_refl _) _⟩
theorem RxM.setFeed {w:World} {g:Nat} {s:RS} {W R:Nat->Prop} {sb:Nat} {l:List SE} {ub eb:Nat} (h:RxM w g s W R sb l ub eb):RxM (w.setCell ⟨g,49,none⟩ (.slice none 0 0)) g s W R sb l ub eb:=by
 have h1:=h.blk.set_ 49 (.slice none 0 0);have h2:(rArr s.C.arr s.now s.deliver s.next sb s.run s.limit s.expiry ub eb s.dup).setIfInBounds (39+10) (.slice none 0 0)=s.C.arr++(rTail s.now s.deliver s.next sb s.run s.limit s.expiry ub eb s.dup).setIfInBounds 10 (.slice none 0 0):=rArr_set s.C.arr_size 10 _;rw[show(39+10:Nat)=49 from rfl]at h2;rw[h2]at h1
 exact h.one (s':=s) (keep_set w g 49 _) h1 rfl rfl rfl h.rng h.ok
theorem rfeed_made (g:Nat) (s:RS) (W R:Nat->Prop) (sb:Nat) (l:List SE) (ub eb:Nat) (w:World) (h:RxM w g s W R sb l ub eb):Calls Tryz.prog 60 #[.pointer (some ⟨g,0,none⟩)] w fun e w'=>e=.returned (.slice none 0 0)/\RxM w' g s W R sb l ub eb/\KeepF (fun k=>k=g) w w':=by
 have HMD:=zh (rxmade_ok g w (h.hi 0));have c49:=h.cf;have f49:=h.blk.frozen 49;have HF:=zh h.setFeed;clear h;go_enter Tryz.func60,Tryz.ntmps60;go_wp2_with (go_at_call 43;refine HMD.out.mono ?_;rintro e w9 ⟨rfl,hw9⟩;subst hw9);go_ret
 exact⟨rfl,HF.out,keep_set w g 49 _⟩
theorem rfresh_made (g:Nat) (s:RS) (W R:Nat->Prop) (sb:Nat) (l:List SE) (ub eb:Nat) (w:World) (h:RxM w g s W R sb l ub eb) (U:List (Nat->Int)) (hU:s.used=U.map kArr) (f:Nat->Int):Calls Tryz.prog 53 #[.pointer (some ⟨g,0,none⟩),.agg (kArr f)] w fun e w'=>e=.returned (.bool (!hasKey f U))/\Below w.heap.size w w':=by
 have HSK:=zh (k_size f);have HUK:=zh Tryz.underlying23;obtain⟨q,hq⟩:∃q,q=hasKey f U:=⟨_,rfl⟩
 have hlk:∀V,Below w.heap.size w V->(Instr.lookup 79 (.map (some ub)) (.agg (kArr f)) false).run Tryz.prog V=.ok (.bool q) V:=fun V hb=>by rw[hq];exact k_lookup V ub U f (by rw[<-hU];exact(h.below hb).u)
 have hmd:∀V,Below w.heap.size w V->Calls Tryz.prog 43 #[.pointer (some ⟨g,0,none⟩)] V fun e w'=>e=.returned (.bool false)/\V=w':=fun V hb=>rxmade_ok g V ((h.below hb).hi 0);have hc:∀V,Below w.heap.size w V->V.cell? ⟨g,47,none⟩=some (.map (some ub)):=fun V hb=>(h.below hb).cu;rw[<-hq];obtain⟨KF,hKF⟩:∃KF,KF=kArr f:=⟨_,rfl⟩
 rw[<-hKF]at HSK hlk ⊢;have HL0:=zh hlk;have HM0:=zh hmd;have HC0:=zh hc;clear h hU hq hKF hlk hmd hc;go_enter Tryz.func53,Tryz.ntmps53;go_upto_region 1 with (fail)
 obtain⟨kb,hkb⟩:∃kb,kb=w.heap.size:=⟨_,rfl⟩
 refine wp_let (fun V=>Blk V kb 23 KF/\Below w.heap.size w V) ⟨by rw[hkb];exact Blk.new _ _ _,(Below.refl _ w).alloc (Nat.le_refl _) _⟩ ?_;rintro W1 ⟨b1,b2⟩;have B1:=zh b1;have B2:=zh b2;rw[<-hkb];clear b1 b2 hkb;have HB:=zh (show ∀V,Below W1.heap.size W1 V->Below w.heap.size w V from fun V hV=>B2.out.trans (hV.mono B2.out.size));have HLK:=zh (fun V (hV:Below W1.heap.size W1 V)=>HL0.out V (HB.out V hV));have HMD:=zh (fun V (hV:Below W1.heap.size W1 V)=>HM0.out V (HB.out V hV));have HC:=zh (fun V (hV:Below W1.heap.size W1 V)=>HC0.out V (HB.out V hV));have HR2:=zh (show ∀V,Below W1.heap.size W1 V->V.rangeAt kb 0 KF.toList from fun V hV=>(B1.out.below hV B1.out.lt).range _ (by simp));refine wp_region_held_drew (S:=fun w'=>Below W1.heap.size W1 w') (by kernel_rfl) ((Below.refl _ W1).drew) (fun hHeld=>?_);obtain⟨w0,hw0⟩:∃w0,w0=W1.drew:=⟨_,rfl⟩
 rw[<-hw0];rw[<-hw0]at hHeld;clear hw0;refine tkR (i:=0) (x:=some 5) (v:=.pointer (some ⟨g,0,none⟩)) rfl ?_;refine rdH (i:=1) (x:=some 6) rfl fun K hK=>?_;go_simp;refine(HMD.out w0 hHeld).mono ?_;rintro e w9 ⟨rfl,hw9⟩;subst hw9;dsimp only;refine hK.out _ _ hHeld (fun hHeld=>?_);clear hK K
 try simp only[Act.put,qa,qb,qc]
 refine tkS (i:=2) (x:=some 7) (v:=.bool true) rfl ?_;refine tkR (i:=3) (x:=some 8) (v:=.bool true) rfl ?_;refine tkR (i:=4) (x:=some 9) (v:=.pointer (some ⟨g,0,none⟩)) rfl ?_;refine tkS (i:=5) (x:=some 10) (v:=.pointer (some ⟨g,0,none⟩)) rfl ?_;refine tkS (i:=6) (x:=some 11) (v:=.pointer (some ⟨g,47,none⟩)) rfl ?_;refine tkY (i:=7) (x:=some 12) (v:=.map (some ub)) rfl (.inl ⟨by rfl,fun W hW=>(by have:=HC.out W hW;go_simp)⟩) ?_;refine' tkY (i:=8) (x:=some 13) (v:=_) rfl (yieldsIf_load_mid (by rfl) _ _ rfl kb 0 rfl KF.toList _ (fun w h=>HR2.out w h) HUK.out rfl HSK.out) ?_;refine tkY (i:=9) (x:=some 14) (v:=.bool q) rfl (.inl ⟨by rfl,fun W hW=>(by have:=HLK.out W hW;go_simp)⟩) ?_;refine tkS (i:=10) (x:=some 15) (v:=.bool (!q)) rfl ?_;refine tkS (i:=11) (x:=some 16) (v:=.bool (!q)) rfl ?_;refine tkR (i:=12) (x:=some 4) (v:=.bool (!q)) rfl ?_;refine wpAnyH_done (by kernel_rfl) ?_ _;have HBE:=zh (HB.out _ hHeld);clear hHeld;go_wp2;go_ret
 exact⟨rfl,HBE.out⟩
end Go.Proofs.YtnadmdadcpemnaaGreat
namespace Go.Proofs.YtnadmdadcpemnaaGreat
set_option linter.unusedVariables false
set_option linter.unusedSimpArgs false
open Go.RowKit
def RS.RL (s:RS):Prop:=s.run=true->s.deliver<=s.limit
theorem timer_rl (s:RS):s.timer.RL:=by
 unfold RS.timer RS.RL RS.start;intro hr;by_cases h:s.stop.run=false/\0 < s.stop.C.ro/\s.stop.deliver < s.stop.next
 ·rw[if_pos h]
  exact Int.le_of_lt h.2.2
 ·rw[if_neg h]at hr ⊢;unfold RS.stop at hr ⊢;by_cases h2:s.run=true/\s.limit<=s.deliver
  ·rw[if_pos h2]at hr
   cases hr
  ·rw[if_neg h2]at hr ⊢;by_cases h3:s.limit<=s.deliver
   ·exact absurd ⟨hr,h3⟩ h2
   ·omega
theorem expire_rl {s:RS} (h:s.RL):s.expire.2.RL:=by
 unfold RS.expire;by_cases h1:s.run=false\/s.now < s.expiry
 ·rw[if_pos h1];exact h
 ·rw[if_neg h1];exact timer_rl _
theorem tick_rl {s:RS} (h:s.RL) (t:Int):(s.tick t).2.2.RL:=by
 unfold RS.tick;by_cases h1:1073741824<=t
 ·rw[if_pos h1];exact h
 ·rw[if_neg h1];exact expire_rl (s:=s.at_ t) h
theorem receive_rl {s:RS} (h:s.RL) (t:Int) (n:Nat) (z:Nat->Nat):(s.receive t n z).2.2.RL:=by
 unfold RS.receive;by_cases h1:1073741824<=t
 ·rw[if_pos h1];exact h
 ·rw[if_neg h1];have h2:(s.at_ t).expire.2.RL:=expire_rl (s:=s.at_ t) h;simp only;generalize (s.at_ t).expire.2=q at h2 ⊢;by_cases h3:(q.take n z).2.1=true
  ·rw[if_pos h3];exact timer_rl _
  ·rw[if_neg h3];show(q.take n z).2.2.RL;have h4:(q.take n z).2.2.run=q.run/\(q.take n z).2.2.deliver=q.deliver/\(q.take n z).2.2.limit=q.limit:=by
    unfold RS.take
    split
    ·exact⟨rfl,rfl,rfl⟩
    split
    ·exact⟨rfl,rfl,rfl⟩
    split
    ·exact⟨rfl,rfl,rfl⟩
    repeat' split
    all_goals exact⟨rfl,rfl,rfl⟩
   unfold RS.RL at h2 ⊢;rw[h4.1,h4.2.1,h4.2.2]
   exact h2
def nOf (w0:World) (M R:Nat->Prop) (k:Nat):Prop:=M k\/(R k/\w0.heap.size<=k)
section
variable {w0 w w1 w2:World} {g h:Nat} {s s':RS} {U U':List (Nat->Int)} {M R M' R' F N:Nat->Prop} {A A':Option Addr} {c c':Nat} {l l':List SE} {uA uA':Option Addr} {uc uc':Nat}
end
theorem fromL_whole:∀(l:List SV) (d nx:Int),Asc l->(∀e,e∈l->d<=e.ct/\e.ct < nx)->d<=nx->(nx=d\/∃e,e∈l/\e.ct=nx-1)->Asc (fromL l d).2.1/\(∀e,e∈(fromL l d).2.1->(fromL l d).2.2 < e.ct/\e.ct < nx)/\(fromL l d).2.2<=nx/\(nx=(fromL l d).2.2\/∃e,e∈(fromL l d).2.1/\e.ct=nx-1)/\d<=(fromL l d).2.2
 | [],d,nx,_,_,h3,h4=>by
  refine⟨List.Pairwise.nil,fun e he=>by simp[fromL]at he,h3,?_,Int.le_refl _⟩;rcases h4 with h | ⟨e,he,_⟩
  ·exact .inl h
  ·simp at he
 | x :: r,d,nx,h1,h2,h3,h4=>by
  have ha:(∀e,e∈r->x.ct < e.ct)/\Asc r:=List.pairwise_cons.1 h1;have hx:=h2 x (by simp);unfold fromL;by_cases hc:x.ct=d
  ·rw[if_pos hc];have ih:=fromL_whole r (d+1) nx ha.2 (fun e he=>⟨by have:=ha.1 e he;omega,(h2 e (by simp[he])).2⟩) (by omega) (by
    rcases h4 with h | ⟨e,he,h⟩
    ·omega
    ·rcases List.mem_cons.1 he with rfl | he
     ·exact .inl (by omega)
     ·exact .inr ⟨e,he,h⟩)
   exact⟨ih.1,ih.2.1,ih.2.2.1,ih.2.2.2.1,by have:=ih.2.2.2.2;simp only;omega⟩
  ·rw[if_neg hc];refine⟨h1,fun e he=>⟨?_,(h2 e he).2⟩,h3,?_,Int.le_refl _⟩
   ·show d < e.ct;rcases List.mem_cons.1 he with rfl | he
    ·omega
    ·have:=ha.1 e he;omega
   ·rcases h4 with h | h
    ·omega
    ·exact .inr h
structure WholeS (s:RS):Prop where
 asc:Asc s.L
 rng:∀e,e∈s.L->s.deliver < e.ct/\e.ct < s.next
 le:s.deliver<=s.next
 last:s.next=s.deliver\/∃e,e∈s.L/\e.ct=s.next-1
 win:s.next-s.deliver<=2048
theorem run_whole {s:RS} (h1:Asc s.L) (h2:∀e,e∈s.L->s.deliver<=e.ct/\e.ct < s.next) (h3:s.deliver<=s.next) (h4:s.next=s.deliver\/∃e,e∈s.L/\e.ct=s.next-1) (h5:s.next-s.deliver<=2048):WholeS s.deliver_.2:=by
 have h:=fromL_whole s.L s.deliver s.next h1 h2 h3 h4
 exact⟨h.1,h.2.1,h.2.2.1,h.2.2.2.1,by show s.next-(fromL s.L s.deliver).2.2<=2048;have:=h.2.2.2.2;omega⟩
theorem timer_same (s:RS):s.timer.L=s.L/\s.timer.deliver=s.deliver/\s.timer.next=s.next:=by
 unfold RS.timer RS.start RS.stop
 split<;>split<;>exact⟨rfl,rfl,rfl⟩
theorem WholeS.same {s s':RS} (h:WholeS s) (e:s'.L=s.L/\s'.deliver=s.deliver/\s'.next=s.next):WholeS s':=
 ⟨by rw[e.1];exact h.asc,by rw[e.1,e.2.1,e.2.2];exact h.rng,by rw[e.2.1,e.2.2];exact h.le,by rw[e.1,e.2.1,e.2.2];exact h.last,by rw[e.2.1,e.2.2];exact h.win⟩
theorem high_mem {k:Int} {L:List SV} {e:SV} (h:e∈highL k L):e∈L/\k<=e.ct:=by
 unfold highL at h;rw[List.mem_filter]at h;refine⟨h.1,?_⟩;have:=h.2;simp at this;omega
theorem expire_whole {s:RS} (h:WholeS s) (hl:s.run=true->s.deliver<=s.limit) (hn:s.limit<=s.next):WholeS s.expire.2:=by
 unfold RS.expire;by_cases h1:s.run=false\/s.now < s.expiry
 ·rw[if_pos h1];exact h
 ·rw[if_neg h1];have hr:s.run=true:=by
   cases hr:s.run
   ·exact absurd (.inl hr) h1
   ·rfl
  have hd:=hl hr;have hm:max s.deliver s.limit=s.limit:=Int.max_eq_right hd;refine WholeS.same (s:=s.cut.deliver_.2) (run_whole ?_ (fun e he=>?_) ?_ ?_ ?_) (timer_same _)
  ·exact List.Pairwise.filter _ h.asc
  ·have h2:=high_mem (show e∈highL s.limit s.L from he)
   exact⟨by show max s.deliver s.limit<=e.ct;omega,(h.rng e h2.1).2⟩
  ·show max s.deliver s.limit<=s.next;omega
  ·show s.next=max s.deliver s.limit\/∃e,e∈highL s.limit s.L/\e.ct=s.next-1;rcases h.last with h2 | ⟨e,he,h2⟩
   ·exact .inl (by omega)
   ·by_cases h3:e.ct < s.limit
    ·exact .inl (by omega)
    ·exact .inr ⟨e,by unfold highL;rw[List.mem_filter];exact⟨he,by simp;omega⟩,h2⟩
  ·show s.next-max s.deliver s.limit<=2048;have:=h.win;omega
theorem wins_mem (x:SV):∀(l:List SV) (e:SV),e∈insV x l↔e=x\/e∈l
 | [],e=>by simp[insV]
 | y :: r,e=>by
  unfold insV
  split
  ·simp
  ·simp only[List.mem_cons,wins_mem x r e];constructor
   ·rintro (h | h | h)
    ·exact .inr (.inl h)
    ·exact .inl h
    ·exact .inr (.inr h)
   ·rintro (h | h | h)
    ·exact .inr (.inl h)
    ·exact .inl h
    ·exact .inr (.inr h)
theorem wins_asc {x:SV}:∀{l:List SV},Asc l->(∀e,e∈l->e.ct ≠ x.ct)->Asc (insV x l)
 | [],_,_=>List.pairwise_singleton _ _
 | y :: r,h,hn=>by
  have h1:(∀e,e∈r->y.ct < e.ct)/\Asc r:=List.pairwise_cons.1 h;have hy:=hn y (by simp);unfold insV
  split
  ·rename_i hlt;refine List.pairwise_cons.2 ⟨fun e he=>?_,h⟩;rcases List.mem_cons.1 he with rfl | he
   ·exact hlt
   ·exact Int.lt_trans hlt (h1.1 e he)
  ·rename_i hlt;refine List.pairwise_cons.2 ⟨fun e he=>?_,wins_asc h1.2 (fun e he=>hn e (by simp[he]))⟩;rcases (wins_mem x r e).1 he with rfl | he
   ·omega
   ·exact h1.1 e he
theorem cnt_win {d sn ct:Int} (h:cntOf d sn=some ct) (h0:0<=sn) (h1:sn < 4096):ct<=d+2047:=by
 unfold cntOf at h;by_cases h2:0<=cntH d sn/\cntH d sn < 1048576
 ·rw[if_pos h2]at h;have h3:=Option.some.inj h;unfold cntH at h3
  split at h3
  ·omega
  ·split at h3<;>omega
 ·rw[if_neg h2]at h
  cases h
theorem take_whole {s:RS} {n:Nat} {z:Nat->Nat} (h:WholeS s) (hz:∀j,j < n->z j < 256) (ht:(s.take n z).2.1=true):WholeS (s.take n z).2.2.deliver_.2:=by
 by_cases h1:n < s.C.least
 ·rw[take_least h1]at ht;cases ht
 by_cases h2:z 0 / 16 ≠ 8
 ·rw[take_head h1 h2]at ht;cases ht
 cases h3:cntOf s.deliver (snOf z) with
 | none=>rw[take_range h1 h2 h3]at ht;cases ht
 | some ct=>
  by_cases h4:16384 < n-2
  ·rw[take_long h1 h2 h3 h4]at ht;cases ht
  by_cases h5:codeOk s.C ct.toNat n z=false
  ·rw[take_check h1 h2 h3 h4 h5]at ht;cases ht
  by_cases h6:stored s.L ct=true\/ct < s.deliver
  ·rw[take_dup h1 h2 h3 h4 h5 h6]at ht;cases ht
  by_cases h7:dataN s.C n=0
  ·rw[take_none h1 h2 h3 h4 h5 h6 h7]at ht;cases ht
  by_cases h8:9000 < dataN s.C n
  ·rw[take_big h1 h2 h3 h4 h5 h6 h7 h8]at ht;cases ht
  rw[take_good h1 h2 h3 h4 h5 h6 h7 h8];have hn2:2<=n:=by
   have:2<=s.C.least:=by unfold Cfg.least;split<;>omega
   omega
  have hsn:(0:Int)<=(snOf z:Int)/\(snOf z:Int) < 4096:=by
   have:=hz 1 (by omega);unfold snOf;omega
  have hw:=cnt_win h3 hsn.1 hsn.2;have hno:∀e,e∈s.L->e.ct ≠ ct:=fun e he hc=>h6 (.inl (by
   unfold stored;rw[List.any_eq_true]
   exact⟨e,he,decide_eq_true hc⟩))
  have hge:s.deliver<=ct:=by
   by_cases hlt:ct < s.deliver
   ·exact absurd (.inr hlt) h6
   ·omega
  have hle:=h.le;have hwin:=h.win;refine run_whole (s:={ s with L:=insV _ s.L,next:=max s.next (ct+1) }) (wins_asc h.asc hno) (fun e he=>?_) ?_ ?_ ?_
  ·rcases (wins_mem _ s.L e).1 he with rfl | he
   ·show s.deliver<=ct/\ct < max s.next (ct+1);omega
   ·have:=h.rng e he;show s.deliver<=e.ct/\e.ct < max s.next (ct+1);omega
  ·show s.deliver<=max s.next (ct+1);omega
  ·show max s.next (ct+1)=s.deliver\/∃e,e∈insV _ s.L/\e.ct=max s.next (ct+1)-1;by_cases h9:s.next<=ct+1
   ·exact .inr ⟨_,(wins_mem _ s.L _).2 (.inl rfl),by show ct=max s.next (ct+1)-1;omega⟩
   ·rcases h.last with h10 | ⟨e,he,h10⟩
    ·omega
    ·exact .inr ⟨e,(wins_mem _ s.L _).2 (.inr he),by omega⟩
  ·show max s.next (ct+1)-s.deliver<=2048;omega
theorem take_false {s:RS} {n:Nat} {z:Nat->Nat} (ht:¬(s.take n z).2.1=true):(s.take n z).2.2.L=s.L/\(s.take n z).2.2.deliver=s.deliver/\(s.take n z).2.2.next=s.next:=by
 by_cases h1:n < s.C.least
 ·rw[take_least h1];exact⟨rfl,rfl,rfl⟩
 by_cases h2:z 0 / 16 ≠ 8
 ·rw[take_head h1 h2];exact⟨rfl,rfl,rfl⟩
 cases h3:cntOf s.deliver (snOf z) with
 | none=>rw[take_range h1 h2 h3];exact⟨rfl,rfl,rfl⟩
 | some ct=>
  by_cases h4:16384 < n-2
  ·rw[take_long h1 h2 h3 h4];exact⟨rfl,rfl,rfl⟩
  by_cases h5:codeOk s.C ct.toNat n z=false
  ·rw[take_check h1 h2 h3 h4 h5];exact⟨rfl,rfl,rfl⟩
  by_cases h6:stored s.L ct=true\/ct < s.deliver
  ·rw[take_dup h1 h2 h3 h4 h5 h6];exact⟨rfl,rfl,rfl⟩
  by_cases h7:dataN s.C n=0
  ·rw[take_none h1 h2 h3 h4 h5 h6 h7];exact⟨rfl,rfl,rfl⟩
  by_cases h8:9000 < dataN s.C n
  ·rw[take_big h1 h2 h3 h4 h5 h6 h7 h8];exact⟨rfl,rfl,rfl⟩
  ·rw[take_good h1 h2 h3 h4 h5 h6 h7 h8]at ht;exact absurd rfl ht
theorem receive_whole {s:RS} (h:WholeS s) (hl:s.run=true->s.deliver<=s.limit) (hn:s.limit<=s.next) (t:Int) {n:Nat} {z:Nat->Nat} (hz:∀j,j < n->z j < 256):WholeS (s.receive t n z).2.2:=by
 unfold RS.receive;by_cases h1:1073741824<=t
 ·rw[if_pos h1];exact h
 ·rw[if_neg h1];have h2:WholeS (s.at_ t).expire.2:=expire_whole (s:=s.at_ t) (h.same ⟨rfl,rfl,rfl⟩) hl hn;simp only;generalize (s.at_ t).expire.2=q at h2 ⊢;by_cases h3:(q.take n z).2.1=true
  ·rw[if_pos h3]
   exact(take_whole h2 hz h3).same (timer_same _)
  ·rw[if_neg h3]
   exact h2.same (take_false h3)
theorem tick_whole {s:RS} (h:WholeS s) (hl:s.run=true->s.deliver<=s.limit) (hn:s.limit<=s.next) (t:Int):WholeS (s.tick t).2.2:=by
 unfold RS.tick;by_cases h1:1073741824<=t
 ·rw[if_pos h1];exact h
 ·rw[if_neg h1]
  exact expire_whole (s:=s.at_ t) (h.same ⟨rfl,rfl,rfl⟩) hl hn
theorem cntL_pk {w:World} {A:Option Addr} {n c:Nat} {lx:List SE} {R:Nat->Prop} (h:SL w 77 2 A n c (lx.flatMap SE.cc)) (hn:n=lx.length) (hp:∀x,x∈lx->Pkt w R x.A x.v.n x.c x.v.z):CntL w A (lx.map (·.v)):=fun k v hv=>by
 rw[List.getElem?_map]at hv
 cases hx:lx[k]? with
 | none=>rw[hx]at hv;cases hv
 | some x=>
  rw[hx]at hv;obtain rfl:x.v=v:=by simpa using hv
  have hk:k < lx.length:=(List.getElem?_eq_some_iff.1 hx).1;obtain⟨b,o,hA,hb⟩:=h.some_ (by omega);have c0:=h.cell hA (j:=k*2+0) (by omega);have c1:=h.cell hA (j:=k*2+1) (by omega);rw[flat_at SE.cc 2 SE.cclen lx k _ x hx (by omega)]at c0 c1
  exact⟨b,o,x.A,x.c,hA,hb,c0,c1,(hp x (List.mem_of_getElem? hx)).row⟩
def ctL (lx:List SE) (k:Nat):Int:=((lx[k]?).map (fun e=>e.v.ct)).getD 0
def paL (lx:List SE) (k:Nat):Option Addr:=((lx[k]?).map (fun e=>e.A)).getD none
def pnL (lx:List SE) (k:Nat):Nat:=((lx[k]?).map (fun e=>e.v.n)).getD 0
def pcL (lx:List SE) (k:Nat):Nat:=((lx[k]?).map (fun e=>e.c)).getD 0
def zL (lx:List SE) (k:Nat):Nat->Int:=((lx[k]?).map (fun e=>e.v.z)).getD (fun _=>0)
theorem lxAt {lx:List SE} {k:Nat} {e:SE} (h:lx[k]? = some e):ctL lx k=e.v.ct/\paL lx k=e.A/\pnL lx k=e.v.n/\pcL lx k=e.c/\zL lx k=e.v.z:=by
 unfold ctL paL pnL pcL zL;rw[h]
 exact⟨rfl,rfl,rfl,rfl,rfl⟩
theorem svTo_lx (lx:List SE):svTo (ctL lx) (pnL lx) (zL lx) lx.length=lx.map (·.v):=by
 apply List.ext_getElem?;intro k;unfold svTo;rw[List.getElem?_map,List.getElem?_map];by_cases hk:k < lx.length
 ·have e1:lx[k]? = some lx[k]:=List.getElem?_eq_getElem hk;obtain⟨h1,h2,h3,h4,h5⟩:=lxAt e1;rw[List.getElem?_range hk,e1];simp only[Option.map_some,svAt,h1,h3,h5]
 ·rw[List.getElem?_eq_none (by rw[List.length_range];omega),List.getElem?_eq_none (by omega)]
  rfl
theorem cnts_lx {w:World} {A:Option Addr} {n c:Nat} {lx:List SE} (h:SL w 77 2 A n c (lx.flatMap SE.cc)) (hn:n=lx.length) (hp:∀x,x∈lx->x.v.n<=x.c/\Row w w.heap.size x.A x.v.n (fun j=>.int .u8 (x.v.z j))) (hv:∀x,x∈lx->(0<=x.v.ct/\x.v.ct < 4294967296)/\x.v.n<=9000/\∀j,j < x.v.n->0<=x.v.z j/\x.v.z j < 256):Cnts w A n (ctL lx) (paL lx) (pnL lx) (pcL lx) (zL lx):=by
 subst hn;have hg:∀k,k < lx.length->∃e,e∈lx/\lx[k]? = some e/\ctL lx k=e.v.ct/\paL lx k=e.A/\pnL lx k=e.v.n/\pcL lx k=e.c/\zL lx k=e.v.z:=fun k hk=>by
  have e1:lx[k]? = some lx[k]:=List.getElem?_eq_getElem hk
  exact⟨lx[k],List.getElem_mem hk,e1,lxAt e1⟩
 refine⟨fun hm=>?_,fun k hk=>?_,fun k hk=>?_,fun k hk=>?_,fun k hk=>?_,fun k hk=>?_⟩
 ·obtain⟨b,o,hA,hb⟩:=h.some_ (by omega);refine⟨b,o,hA,hb,fun k hk=>?_⟩;obtain⟨e,he,hx,h1,h2,h3,h4,h5⟩:=hg k hk;have c0:=h.cell hA (j:=k*2+0) (by omega);have c1:=h.cell hA (j:=k*2+1) (by omega);rw[flat_at SE.cc 2 SE.cclen lx k _ e hx (by omega)]at c0 c1;rw[h1,h2,h3,h4]
  exact⟨c0,c1⟩
 ·obtain⟨e,he,hx,h1,h2,h3,h4,h5⟩:=hg k hk;rw[h1];exact(hv e he).1
 ·obtain⟨e,he,hx,h1,h2,h3,h4,h5⟩:=hg k hk;rw[h3];have:=(hv e he).2.1;omega
 ·obtain⟨e,he,hx,h1,h2,h3,h4,h5⟩:=hg k hk;rw[h3,h4];exact(hp e he).1
 ·obtain⟨e,he,hx,h1,h2,h3,h4,h5⟩:=hg k hk;rw[h3,h5];exact(hv e he).2.2
 ·obtain⟨e,he,hx,h1,h2,h3,h4,h5⟩:=hg k hk;rw[h2,h3,h5];exact(hp e he).2
theorem whole_of {s:RS} {m:Nat} {ct:Nat->Int} {pn:Nat->Nat} {z:Nat->Nat->Int} (hw:WholeS s) (hok:s.Ok) (hf:∀v,v∈s.L->1<=v.n/\v.n<=9000) (hm:m=s.L.length) (he:svTo ct pn z m=s.L):Whole s.deliver s.next m ct pn:=by
 have hg:∀k,k < m->∃v,s.L[k]? = some v/\v∈s.L/\ct k=v.ct/\pn k=v.n:=fun k hk=>by
  have h1:(svTo ct pn z m)[k]? = some (svAt ct pn z k):=by
   unfold svTo;rw[List.getElem?_map,List.getElem?_range hk]
   rfl
  rw[he]at h1
  exact⟨_,h1,List.mem_of_getElem? h1,rfl,rfl⟩
 have hasc:∀i j,i < j->j < m->ct i < ct j:=fun i j hij hj=>by
  obtain⟨v,h1,h2,h3,h4⟩:=hg i (by omega);obtain⟨v',h1',h2',h3',h4'⟩:=hg j hj;have h5:=List.pairwise_iff_getElem.1 hw.asc i j (by omega) (by omega) hij;rw[List.getElem?_eq_getElem (by omega)]at h1 h1';rw[h3,h3',<-Option.some.inj h1,<-Option.some.inj h1']
  exact h5
 refine⟨⟨hw.le,hok.next,hw.win⟩,fun k hk=>?_,?_⟩
 ·obtain⟨v,h1,h2,h3,h4⟩:=hg k hk;have h5:=hw.rng v h2;have h6:=hf v h2;refine⟨?_,by rw[h3];exact h5.2,by rw[h4];exact h6.1,by rw[h4];exact h6.2⟩
  cases k with
  | zero=>show s.deliver < ct 0;rw[h3];exact h5.1
  | succ k=>rw[lastOf_succ];exact hasc k (k+1) (by omega) hk
 ·rcases hw.last with h | ⟨e,he2,h⟩
  ·exact .inl h
  ·obtain⟨j,hj,hje⟩:=List.getElem_of_mem he2;have hj2:s.L[j]? = some e:=by rw[List.getElem?_eq_getElem hj,hje]
   obtain⟨v,h1,h2,h3,h4⟩:=hg j (by omega);rw[hj2]at h1;have hve:ct j=e.ct:=by rw[h3,<-Option.some.inj h1]
   cases m with
   | zero=>omega
   | succ m=>
    obtain⟨v',h1',h2',h3',h4'⟩:=hg m (by omega);have h5:=hw.rng v' h2';refine .inr ?_;rw[lastOf_succ];have h6:ct j<=ct m:=by
     by_cases hjm:j=m
     ·rw[hjm];exact Int.le_refl _
     ·exact Int.le_of_lt (hasc j m (by omega) (by omega))
    constructor<;>omega
def PRX (w0 w:World) (g h:Nat) (s s':RS) (U:List (Nat->Int)) (X:Nat->Prop):Prop:=
 ∃M R A c l uA uc,VM w h s' U M R A c l uA uc/\SoloR w0 w g s (fun k=>nOf w0 M R k\/X k)/\(∀k,M k->w0.heap.size<=k)/\∀k,X k->¬M k/\¬R k
section
variable {w0 w w1 w2 w':World} {g h:Nat} {s s' s2:RS} {U U':List (Nat->Int)} {X X' M R M' R' F:Nat->Prop} {A A':Option Addr} {c c':Nat} {l l':List SE} {uA uA':Option Addr} {uc uc':Nat}
theorem PRX.low (hp:PRX w0 w g h s s' U X):Below w0.heap.size w0 w:=by
 obtain⟨M,R,A,c,l,uA,uc,h1,h2,h3,h4⟩:=hp
 exact h2.low
theorem PRX.lt (hp:PRX w0 w g h s s' U X) {k:Nat} (hk:X k):k < w.heap.size:=by
 obtain⟨M,R,A,c,l,uA,uc,h1,h2,h3,h4⟩:=hp
 exact h2.lt_of (.inr hk)
theorem PRX.uv (hp:PRX w0 w g h s s' U X):s'.used=U.map kArr:=by
 obtain⟨M,R,A,c,l,uA,uc,h1,h2,h3,h4⟩:=hp
 exact h1.uv
theorem PRX.ok (hp:PRX w0 w g h s s' U X):s'.Ok:=by
 obtain⟨M,R,A,c,l,uA,uc,h1,h2,h3,h4⟩:=hp
 exact h1.ok
theorem PRX.fit (hp:PRX w0 w g h s s' U X):∀v,v∈s'.L->1<=v.n/\v.n<=9000:=by
 obtain⟨M,R,A,c,l,uA,uc,h1,h2,h3,h4⟩:=hp;intro v hv;rw[<-h1.lv,List.mem_map]at hv;obtain⟨e,he,rfl⟩:=hv
 exact⟨(h1.pk e he).pos,(h1.pk e he).max⟩
theorem PRX.below (hp:PRX w0 w g h s s' U X) (hb:Below w.heap.size w w'):PRX w0 w' g h s s' U X:=by
 obtain⟨M,R,A,c,l,uA,uc,h1,h2,h3,h4⟩:=hp
 exact⟨M,R,A,c,l,uA,uc,h1.below hb,h2.below hb,h3,h4⟩
theorem PRX.less (hp:PRX w0 w g h s s' U X) (hX:∀k,X' k->X k):PRX w0 w g h s s' U X':=by
 obtain⟨M,R,A,c,l,uA,uc,h1,h2,h3,h4⟩:=hp
 exact⟨M,R,A,c,l,uA,uc,h1,h2.subN (fun k hk=>hk.imp id (hX k)),h3,fun k hk=>h4 k (hX k hk)⟩
theorem PRX.add (hp:PRX w0 w g h s s' U X) (hb:Below w.heap.size w w') (xb:Nat) (h1:w.heap.size<=xb) (h2:xb < w'.heap.size):PRX w0 w' g h s s' U (fun k=>X k\/k=xb):=by
 obtain⟨M,R,A,c,l,uA,uc,h3,h4,h5,h6⟩:=hp;refine⟨M,R,A,c,l,uA,uc,h3.below hb,h4.other (KeepF.of_below hb) (fun k hk=>?_),h5,fun k hk=>?_⟩
 ·have hs:=hb.size;rcases hk with hk | hk | hk
  ·exact⟨.inl (.inl hk),Nat.lt_of_lt_of_le (h4.lt_of (.inl hk)) hs⟩
  ·exact⟨.inl (.inr hk),Nat.lt_of_lt_of_le (h4.lt_of (.inr hk)) hs⟩
  ·rw[hk];exact⟨.inr h1,h2⟩
 ·rcases hk with hk | hk
  ·exact h6 k hk
  ·exact⟨fun hm=>(by have:=h3.min k hm;omega),fun hr=>(by have:=h3.rin k hr;omega)⟩
theorem PRX.other (hp:PRX w0 w g h s s' U X) (hk:KeepF X w w'):PRX w0 w' g h s s' U X:=by
 obtain⟨M,R,A,c,l,uA,uc,h3,h4,h5,h6⟩:=hp
 exact⟨M,R,A,c,l,uA,uc,h3.keepF hk h6,h4.other (hk.mono (fun k hx=>.inr hx)) (fun k hk2=>⟨.inl hk2,Nat.lt_of_lt_of_le (h4.lt_of hk2) hk.size⟩),h5,h6⟩
theorem pq_prog (v:VM w h s' U M R A c l uA uc) (p:SoloR w0 w g s (fun k=>nOf w0 M R k\/X k)) (hp:SoloR w0 w1 g s2 (fun k=>nOf w0 M R k\/X k)) (hk:KeepF (fun k=>¬(nOf w0 M R k\/X k)) w w1):VM w1 h s' U M R A c l uA uc:=by
 have h1:=p.low;have h2:=hp.low;have hk2:KeepF (fun k=>¬(nOf w0 M R k\/X k)/\w0.heap.size<=k) w w1:=⟨hk.os,hk.tape,hk.output,hk.size,fun k hlt hn=>by
  by_cases h3:k < w0.heap.size
  ·exact(h2.block k h3).trans (h1.block k h3).symm
  ·exact hk.block k hlt (fun hx=>hn ⟨hx,by omega⟩)⟩
 exact v.keepF hk2 (fun k hf=>⟨fun hm=>hf.1 (.inl (.inl hm)),fun hr=>hf.1 (.inl (.inr ⟨hr,hf.2⟩))⟩)
theorem pq_ref (hlo:∀k,M k->w0.heap.size<=k) (hX:∀k,X k->¬M k/\¬R k) (hp:SoloR w0 w1 g s (fun k=>nOf w0 M R k\/X k)) (hv:VM w2 h s' U' M' R' A' c' l' uA' uc') (hk:KeepF F w1 w2) (hF:∀k,F k->M k) (hM:∀k,M' k->M k\/w1.heap.size<=k) (hR:∀k,R' k->R k\/w1.heap.size<=k):PRX w0 w2 g h s s' U' X/\∀k,X k->w2.heap[k]? = w1.heap[k]?:=by
 have hs:=hp.low.size;refine⟨⟨M',R',A',c',l',uA',uc',hv,hp.other (hk.mono (fun k hf=>.inl (.inl (hF k hf)))) (fun k hn=>?_),fun k hm=>?_,fun k hx=>?_⟩,fun k hx=>hk.block k (hp.lt_of (.inr hx)) (fun hf=>(hX k hx).1 (hF k hf))⟩
 ·rcases hn with (hm | ⟨hr,h1⟩) | hx
  ·refine⟨?_,hv.min k hm⟩;rcases hM k hm with h2 | h2
   ·exact .inl (.inl (.inl h2))
   ·exact .inr h2
  ·refine⟨?_,hv.rin k hr⟩;rcases hR k hr with h2 | h2
   ·exact .inl (.inl (.inr ⟨h2,h1⟩))
   ·exact .inr h2
  ·exact⟨.inl (.inr hx),Nat.lt_of_lt_of_le (hp.lt_of (.inr hx)) hk.size⟩
 ·rcases hM k hm with h2 | h2
  ·exact hlo k h2
  ·omega
 ·have hlt:=hp.lt_of (.inr hx);refine⟨fun hm=>?_,fun hr=>?_⟩
  ·rcases hM k hm with h2 | h2
   ·exact(hX k hx).1 h2
   ·omega
  ·rcases hR k hr with h2 | h2
   ·exact(hX k hx).2 h2
   ·omega
def TwoO (w0 w:World) (g h:Nat) (U:List (Nat->Int)) (X:Nat->Prop) (r:List SV×Int×RS) (f:FuncId) (ar:Array Value) (e:Ending) (w1:World):Prop:=
 ∃A1 c1 n,e=.returned (.tuple #[.slice A1 n c1,.int .i64 r.2.1])/\n<=maxLen/\(∀k,X k->w1.heap[k]? = w.heap[k]?)/\Calls Tryz.prog f ar w1 fun e w2=>∃A2 c2,e=.returned (.tuple #[.slice A2 n c2,.int .i64 r.2.1])/\SameB w2 A1 A2 n/\PRX w0 w2 g h r.2.2 r.2.2 U X/\∀k,X k->w2.heap[k]? = w1.heap[k]?
theorem PRX.receive (hp:PRX w0 w g h s s U X) (hf:RFine s) (hl9:s.L.length<=249) (hrl:s.RL) (t:Int) (PA:Option Addr) (n pc:Nat) (z:Nat->Nat) (hn:n<=maxLen) (hnc:n<=pc) (hz:∀j,j < n->z j < 256) (hr:Row w0 w0.heap.size PA n (fun j=>.int .u8 ((z j:Nat):Int))) :
  Calls Tryz.prog 11 #[.pointer (some ⟨g,0,none⟩),.int .i64 t,.slice PA n pc] w (TwoO w0 w g h U X (s.receive t n z) 51 #[.pointer (some ⟨h,0,none⟩),.int .i64 t,.slice PA n pc]):=by
 obtain⟨M,R,A,c,l,uA,uc,v,p,hlo,hX⟩:=hp;have hlow:=p.low;have hrow:∀V:World,Below w0.heap.size w0 V->Row V V.heap.size PA n (fun j=>.int .u8 ((z j:Nat):Int)):=fun V hb h0=>by
  obtain⟨b,o,e,hb1,hc⟩:=hr h0
  exact⟨b,o,e,Nat.lt_of_lt_of_le hb1 hb.size,fun j hj=>(hb.cell (p:=⟨b,o+j,none⟩) hb1).trans (hc j hj)⟩
 have hA:∀a,PA=some a->n ≠ 0->a.block < w0.heap.size:=fun a ha hn0=>by
  obtain⟨b,o,e,hb1,hc⟩:=hr (by omega);rw[ha]at e
  cases e
  exact hb1
 refine(solor_receive p hf t PA n pc z hn hnc hz (hrow w hlow) (fun a ha h0=>.inl (hA a ha h0))).mono ?_;rintro e w1 ⟨A1,c1,lo1,rfl,hO1,hm1,hp1,hS1,hK1⟩;have v1:=pq_prog v p hS1 hK1;refine⟨A1,c1,lo1.length,rfl,Nat.le_trans hO1.1.le hO1.1.cmax,fun k hx=>hK1.block k (p.lt_of (.inr hx)) (fun hn=>hn (.inr hx)),?_⟩;have hll:l.length=s.L.length:=by rw[<-v.lv,List.length_map]
 refine(vreceive_ok h s U M R A c l uA uc w1 v1 (by omega) hf.ok hf.val hrl hf.dup t PA n pc z hn hnc hz (hrow w1 hS1.low) (fun a ha h0 e=>?_)).mono ?_
 ·have h1:=hA a ha h0;have h2:=hlo h v.mh;omega
 ·rintro e w2 ⟨A2,c2,lo2,A',c',l',M',R',rfl,hO2,hm2,hp2,v2,hM,hR,hK2⟩;have hlen:lo1.length=lo2.length:=by
   have:=congrArg List.length (hm1.trans hm2.symm);simpa using this
  have hO:OutM w2 w.heap.size A1 c1 lo1:=⟨hO1.1.keepF hK2 (fun a ha e=>by
   have h1:=hO1.2 a ha;have h2:=v.min h v.mh;omega),hO1.2⟩
  have hsm:=out_same hO hO2 (hm1.trans hm2.symm) (fun x hx=>(hp1 x hx).keep hK2 (fun k hk hn=>hn (.inl (.inl (by rw[hk];exact v.mh))))) hp2;have hq:=pq_ref hlo hX hS1 v2 hK2 (fun k hk=>by rw[hk];exact v.mh) hM hR
  exact⟨A2,c2,by rw[hlen],hsm,hq.1,hq.2⟩
theorem PRX.tick (hp:PRX w0 w g h s s U X) (hf:RFine s) (hrl:s.RL) (t:Int) :
  Calls Tryz.prog 13 #[.pointer (some ⟨g,0,none⟩),.int .i64 t] w (TwoO w0 w g h U X (s.tick t) 52 #[.pointer (some ⟨h,0,none⟩),.int .i64 t]):=by
 obtain⟨M,R,A,c,l,uA,uc,v,p,hlo,hX⟩:=hp;refine(solor_tick p hf t).mono ?_;rintro e w1 ⟨A1,c1,lo1,rfl,hO1,hm1,hp1,hS1,hK1⟩;have v1:=pq_prog v p hS1 hK1;refine⟨A1,c1,lo1.length,rfl,Nat.le_trans hO1.1.le hO1.1.cmax,fun k hx=>hK1.block k (p.lt_of (.inr hx)) (fun hn=>hn (.inr hx)),?_⟩;have hll:l.length=s.L.length:=by rw[<-v.lv,List.length_map]
 refine(vtick_ok h s U M R A c l uA uc w1 v1 (by have:=hf.few;omega) hf.val.2.2.2.2.2 hrl t).mono ?_;rintro e w2 ⟨A2,c2,lo2,A',c',l',rfl,hO2,hm2,hin,v2,hl2,hK2⟩;have hlen:lo1.length=lo2.length:=by
  have:=congrArg List.length (hm1.trans hm2.symm);simpa using this
 have hO:OutM w2 w.heap.size A1 c1 lo1:=⟨hO1.1.keepF hK2 (fun a ha e=>by
  have h1:=hO1.2 a ha;have h2:=v.min h v.mh;omega),hO1.2⟩
 have hsm:=out_same (R':=R) hO hO2 (hm1.trans hm2.symm) (fun x hx=>(hp1 x hx).keep hK2 (fun k hk hn=>hn (.inl (.inl (by rw[hk];exact v.mh))))) (fun x hx=>(v1.pk x (hin x hx)).keep hK2 (fun k hk hr=>v.dis k (by rw[hk];exact v.mh) hr));have hq:=pq_ref hlo hX hS1 v2 hK2 (fun k hk=>by rw[hk];exact v.mh) (fun k hk=>.inl hk) (fun k hk=>.inl hk)
 exact⟨A2,c2,by rw[hlen],hsm,hq.1,hq.2⟩
theorem PRX.tfresh (hp:PRX w0 w g h s s U X) (f:Nat->Int):Calls Tryz.prog 53 #[.pointer (some ⟨g,0,none⟩),.agg (kArr f)] w fun e w'=>e=.returned (.bool (!hasKey f U))/\Below w.heap.size w w':=by
 have hu:=hp.uv;obtain⟨M,R,A,c,l,uA,uc,v,⟨W,R1,sb,l1,ub,eb,p1,p2,p3,p4⟩,hlo,hX⟩:=hp
 exact rfresh_made g s W R1 sb l1 ub eb w p1 U hu f
theorem PRX.vfresh (hp:PRX w0 w g h s s' U X) (hU:U.length<=1000000) (f:Nat->Int):Calls Tryz.prog 54 #[.pointer (some ⟨h,0,none⟩),.agg (kArr f)] w fun e w'=>e=.returned (.bool (!hasKey f U))/\Below w.heap.size w w':=by
 obtain⟨M,R,A,c,l,uA,uc,v,p,hlo,hX⟩:=hp
 exact vfresh_ok v hU f
def RS.rekey6 (s:RS) (U:List (Nat->Int)) (f c:Nat->Int):Int×RS×List (Nat->Int):=if hasKey f U=true then (461,s,U) else (0,s.rekeyed f c,U++[f])
theorem PRX.trekey (hp:PRX w0 w g h s s U X) (hcm:s.C.cm=false) (f c:Nat->Int) :
  Calls Tryz.prog 46 #[.pointer (some ⟨g,0,none⟩),.agg (kArr f),.agg (kArr c)] w fun e w'=>e=.returned (.int .i64 (s.rekey6 U f c).1)/\PRX w0 w' g h (s.rekey6 U f c).2.1 s U X/\∀k,X k->w'.heap[k]? = w.heap[k]?:=by
 have hu:=hp.uv;have hp0:=hp;obtain⟨M,R,A,cq,l,uA,uc,v,p,hlo,hX⟩:=hp;have p0:=p;obtain⟨W,R1,sb,l1,ub,eb,p1,p2,p3,p4⟩:=p;unfold RS.rekey6
 cases hk:hasKey f U
 ·rw[if_neg (by decide)];refine(rrekey_new g s W R1 sb l1 ub eb w p1 U hu hcm f c hk).mono ?_;rintro e w1 ⟨rfl,hT,hK⟩;have hs:=p3.size;have hS:SoloR w0 w1 g (s.rekeyed f c) (fun k=>nOf w0 M R k\/X k):=⟨W,R1,sb,l1,ub,eb,hT,p2,KeepF.below p3 hK p2 hs,fun k hn=>⟨(p4 k hn).1,Nat.lt_of_lt_of_le (p4 k hn).2.1 hK.size,(p4 k hn).2.2⟩⟩
  have hK2:KeepF (fun k=>¬(nOf w0 M R k\/X k)) w w1:=hK.mono (fun k hw hn=>(p4 k hn).2.2.1 hw)
  exact⟨rfl,⟨M,R,A,cq,l,uA,uc,pq_prog v p0 hS hK2,hS,hlo,hX⟩,fun k hx=>hK2.block k (p0.lt_of (.inr hx)) (fun hn=>hn (.inr hx))⟩
 ·rw[if_pos rfl];refine(rrekey_used g s W R1 sb l1 ub eb w p1 U hu f c hk).mono ?_;rintro e w1 ⟨rfl,hB⟩
  exact⟨rfl,hp0.below hB,fun k hx=>hB.block k (hp0.lt hx)⟩
theorem PRX.vrekey (hp:PRX w0 w g h s2 s U X) (hU:U.length<=1000000) (f c:Nat->Int) :
  Calls Tryz.prog 55 #[.pointer (some ⟨h,0,none⟩),.agg (kArr f),.agg (kArr c)] w fun e w'=>e=.returned (.int .i64 (s.rekey6 U f c).1)/\PRX w0 w' g h s2 (s.rekey6 U f c).2.1 (s.rekey6 U f c).2.2 X/\∀k,X k->w'.heap[k]? = w.heap[k]?:=by
 have hp0:=hp;obtain⟨M,R,A,cq,l,uA,uc,v,p,hlo,hX⟩:=hp;unfold RS.rekey6;refine(vrekey_ok v hU f c).mono ?_;rintro e w1 (⟨rfl,hk,hB⟩ | ⟨rfl,hk,A9,c9,M',v',hM,hK⟩)
 ·rw[if_pos hk]
  exact⟨rfl,hp0.below hB,fun k hx=>hB.block k (hp0.lt hx)⟩
 ·rw[if_neg (by rw[hk];decide)];have hq:=pq_ref hlo hX p v' hK (fun k hf=>by
   rcases hf with hf | ⟨a,ha,hf⟩
   ·rw[hf];exact v.mh
   ·rw[hf];exact v.mu a ha) hM (fun k hr=>.inl hr)
  exact⟨rfl,hq.1,hq.2⟩
theorem PRX.texport (hp:PRX w0 w g h s s' U X) (hl:s.L.length<=250):Calls Tryz.prog 19 #[.pointer (some ⟨g,0,none⟩)] w (SoE s w):=by
 obtain⟨M,R,A,c,l,uA,uc,v,p,hlo,hX⟩:=hp
 exact solor_export p hl
theorem PRX.vexport (hp:PRX w0 w g h s s' U X):Calls Tryz.prog 56 #[.pointer (some ⟨h,0,none⟩)] w (SoE s' w):=by
 obtain⟨M,R,A,c,l,uA,uc,v,p,hlo,hX⟩:=hp;have hl:l.length=s'.L.length:=by rw[<-v.lv,List.length_map]
 refine(vexport_ok h s' U M R A c l uA uc w v).mono ?_;rintro e w1 ⟨rfl,hB⟩;have v1:=v.below hB;refine⟨A,c,by rw[hl],by rw[<-hl];exact v.st.le,?_,hB⟩;have:=cntL_pk (w:=w1) v1.st rfl v1.pk;rw[v1.lv]at this
 exact this
theorem PRX.feed (hp:PRX w0 w g h s s' U X):Calls Tryz.prog 60 #[.pointer (some ⟨g,0,none⟩)] w fun e w'=>e=.returned (.slice none 0 0)/\PRX w0 w' g h s s' U X/\KeepF (fun k=>k=g) w w':=by
 obtain⟨M,R,A,cq,l,uA,uc,v,p,hlo,hX⟩:=hp;have p0:=p;obtain⟨W,R1,sb,l1,ub,eb,p1,p2,p3,p4⟩:=p;refine(rfeed_made g s W R1 sb l1 ub eb w p1).mono ?_;rintro e w1 ⟨rfl,hT,hK⟩;have hs:=p3.size;have hwg:=p2 g p1.wg;have hS:SoloR w0 w1 g s (fun k=>nOf w0 M R k\/X k):=⟨W,R1,sb,l1,ub,eb,hT,p2,KeepF.below p3 hK (fun k hk=>by rw[hk];exact hwg) hs,fun k hn=>⟨(p4 k hn).1,Nat.lt_of_lt_of_le (p4 k hn).2.1 hK.size,(p4 k hn).2.2⟩⟩
 have hK2:KeepF (fun k=>¬(nOf w0 M R k\/X k)) w w1:=hK.mono (fun k hw hn=>(p4 k hn).2.2.1 (by rw[hw];exact p1.wg))
 exact⟨rfl,⟨M,R,A,cq,l,uA,uc,pq_prog v p0 hS hK2,hS,hlo,hX⟩,hK⟩
theorem PRX.move (hp:PRX w0 w g h s s U X) (hW:WholeS s) (hl:s.L.length<=250) (cf:Cfg) (hcv:cf.Valid) :
  Calls Tryz.prog 19 #[.pointer (some ⟨g,0,none⟩)] w fun e w1=>∃A c,e=.returned (.agg #[.int .u64 s.deliver,.int .u64 s.next,.slice A s.L.length c])/\Below w.heap.size w w1/\
   ∀V,Below w1.heap.size w1 V->Calls Tryz.prog 16 #[.agg cf.arr,.agg #[.int .u64 s.deliver,.int .u64 s.next,.slice A s.L.length c]] V fun e w2=>∃g',e=.returned (.tuple #[.pointer (some ⟨g',0,none⟩),.int .i64 0])/\Below V.heap.size V w2/\
    ∀V2,Below w2.heap.size w2 V2->Calls Tryz.prog 56 #[.pointer (some ⟨h,0,none⟩)] V2 fun e w3=>∃A' c',e=.returned (.agg #[.int .u64 s.deliver,.int .u64 s.next,.slice A' s.L.length c'])/\Below V2.heap.size V2 w3/\
     ∀V3,Below w3.heap.size w3 V3->Calls Tryz.prog 24 #[.agg cf.arr,.agg #[.int .u64 s.deliver,.int .u64 s.next,.slice A' s.L.length c']] V3 fun e w4=>∃h' XX,e=.returned (.pointer (some ⟨h',0,none⟩))/\PRX w0 w4 g' h' (rresS cf XX s.deliver s.next s.L) (rresS cf XX s.deliver s.next s.L) [cf.key] (fun _=>False)/\Below V3.heap.size V3 w4:=by
 have hfit:=hp.fit;have hok:=hp.ok;obtain⟨M,R,A,cq,l,uA,uc,v,p,hlo,hX⟩:=hp;have hlow:=p.low;have hlv:l.length=s.L.length:=by rw[<-v.lv,List.length_map]
 obtain⟨W,R1,sb,l1,ub,eb,p1,p2,p3,p4⟩:=p;have hl1:l1.length=s.L.length:=by rw[<-p1.lv,List.length_map]
 refine(rexport_ok g s W R1 sb l1 ub eb w p1 (sortedOK_small (by omega)) (by omega)).mono ?_;rintro e w1 ⟨A1,c1,lx,rfl,hv1,hS1,hA1,hp1,hB1⟩;rw[hl1]at hS1 ⊢;rw[p1.lv]at hv1;have hlx:s.L.length=lx.length:=by rw[<-hv1,List.length_map]
 have hcn:Cnts w1 A1 s.L.length (ctL lx) (paL lx) (pnL lx) (pcL lx) (zL lx):=cnts_lx hS1 hlx (fun x hx=>⟨(hp1 x hx).1.le,(hp1 x hx).1.rowOf (fun j hj=>by unfold SV.bytes;rw[List.getElem?_map,List.getElem?_range hj];rfl)⟩) (fun x hx=>by
  have hm:x.v∈s.L:=by rw[<-hv1];exact List.mem_map.2 ⟨x,hx,rfl⟩
  rw[<-v.lv,List.mem_map]at hm;obtain⟨y,hy,hyx⟩:=hm;have h1:=v.rng y hy;have h2:=v.pk y hy;have h3:=v.ok.deliver;have h4:=v.ok.next;rw[hyx]at h1 h2
  exact⟨by omega,h2.max,h2.byte⟩)
 have hsv:svTo (ctL lx) (pnL lx) (zL lx) s.L.length=s.L:=by rw[hlx,svTo_lx,hv1]
 have hwh:Whole s.deliver s.next s.L.length (ctL lx) (pnL lx):=whole_of hW hok hfit rfl hsv;refine⟨A1,c1,rfl,hB1,fun V hV=>?_⟩;refine(rresume_any cf V hcv A1 s.L.length c1 s.deliver s.next (ctL lx) (paL lx) (pnL lx) (pcL lx) (zL lx) hok.deliver.1 (by unfold maxLen;omega) (hcn.below hV) hwh).mono ?_;rintro e w2 ⟨g',mS,mU,eb',XX,l2,R2,rfl,hT2,q1,q2,q3,q4,q5,hB2⟩;rw[hsv]at hT2;refine⟨g',rfl,hB2,fun V2 hV2=>?_⟩;have hwV:Below w.heap.size w V:=hB1.trans (hV.mono hB1.size);have hwV2:Below w.heap.size w V2:=(hwV.trans (hB2.mono hwV.size)).trans (hV2.mono (Nat.le_trans hwV.size hB2.size));have v2:=v.below hwV2;refine(vexport_ok h s U M R A cq l uA uc V2 v2).mono ?_;rintro e w3 ⟨rfl,hB3⟩;rw[hlv];refine⟨A,cq,rfl,hB3,fun V3 hV3=>?_⟩;have hV23:Below V2.heap.size V2 V3:=hB3.trans (hV3.mono hB3.size);have v3:=v2.below hV23;have hvd:=v.ok.deliver;have hvn:=v.ok.next;have hres:=vresume_ok cf XX s.deliver s.next A l cq R V3 ⟨hvd.1,hvd.2,hvn⟩ (by omega) (fun W' hW'=>(v3.below hW').st.srcN Tryz.underlying44 (fun u hu=>SE.one hu)) v3.ris v3.rng v3.pk v3.rin;rw[hlv]at hres;refine hres.mono ?_;rintro e w4 ⟨rb,A',c',nb,M',rfl,hVM,hM',hB4⟩;rw[v3.lv]at hVM;refine⟨rb,XX,rfl,⟨M',R,A',c',l,some ⟨nb,0,none⟩,1,hVM,⟨_,R2,mS,l2,mU,eb',hT2.below ((hV2.trans (hV23.mono hV2.size)).trans (hB4.mono (Nat.le_trans hV2.size hV23.size))),fun k hk=>?_,hlow.trans ((hwV2.trans ((hV23.trans (hB4.mono hV23.size)).mono hwV2.size)).mono hlow.size),fun k hk=>?_⟩,fun k hk=>?_,fun k hk=>hk.elim⟩,hB4⟩
 ·have h1:=hlow.size;have h2:=hwV.size;rcases hk with rfl | rfl | rfl | rfl<;>omega
 ·have h1:=hlow.size;have h2:=hwV.size;have h3:=hV2.size;have h4:=hV23.size;have h5:=hB4.size;have h7:=hB2.size;have hwin:∀j,(j=g'\/j=mS\/j=mU\/j=eb')->j < w2.heap.size:=fun j hj=>hT2.win j hj;rcases hk with (hk | ⟨hr,hk⟩) | hk
  ·have h6:=hM' k hk
   exact⟨by omega,hVM.min k hk,fun hw=>by have:=hwin k hw;omega,fun hr=>by have:=hT2.rin k hr;omega⟩
  ·have h6:=v.rin k hr;refine⟨hk,hVM.rin k hr,fun hw=>?_,fun hr2=>?_⟩
   ·rcases hw with rfl | rfl | rfl | rfl<;>omega
   ·have:=q5 k hr2;omega
  ·exact hk.elim
 ·have h1:=hlow.size;have h2:=hwV2.size;have h3:=hV23.size;have h4:=hM' k hk;omega
end
end Go.Proofs.YtnadmdadcpemnaaGreat

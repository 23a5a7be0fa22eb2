import Derived.Test.YtjanmleoomoedaaGreatMUA
import Derived.Test.YtjanmleoomoedaaGreatRL
import Derived.Test.YtjanmleoomoedaaGreatMGI
import Derived.BigQuiet
namespace Go.Proofs.YtjanmleoomoedaaGreat
open Go.RowKit
set_option linter.unusedVariables false
attribute [local go_sem ↓] Go.wp_at_zero Go.wp_at_succ
private theorem zh {p:Prop} (h:p):Hid p:=h
private theorem tkH {P:Program} {ops:Array Oper} {Q:Exit→Act→World→Prop} {md:Region.Mode} {S:World→Prop} {i:Nat} {oi:Oper} {v:Value} {fuel:Nat} {listed l':Array Bool} {a a':Act} {w:World} (hi:ops[i]? = some oi) (hy:YieldsIf P ops S oi v a) (hS:S w)
  (h:wpAnyH P md ops Q S fuel l' a' w) (hl:listed.setIfInBounds i true=l':=by(try simp only[List.setIfInBounds_toArray,List.set_cons_zero,List.set_cons_succ]);rfl) (ha:a.put oi.dst v=a':=by(try simp only[Act.put,List.setIfInBounds_toArray,List.set_cons_zero,List.set_cons_succ]);rfl) (hs:Region.noSelect ops=true:=by kernel_rfl) (hf:Region.free md ops listed i=true:=by kernel_rfl) (hr:(Region.ready md ops listed).contains i=true:=by kernel_rfl)
  (hQ:∀c a w,Q (.panic c) (a.put oi.dst v) w→Q (.panic c) a w:=by exact fun _ _ _ h=>h):wpAnyH P md ops Q S (fuel+1) listed a w:=by subst hl;subst ha;exact wpAnyH_take hi hs hf hr hQ hy hS h
private theorem tkL {P:Program} {ops:Array Oper} {Q:Exit→Act→World→Prop} {md:Region.Mode} {S:World→Prop} {L i:Nat} {oi:Oper} {v:Value} {fuel:Nat} {listed l':Array Bool} {a a':Act} {w:World} (hi:ops[i]? = some oi) (hy:YieldsIf P ops S oi v a) (hS:S w)
  (h:wpAnyL P md ops Q S L fuel l' a' w) (hl:listed.setIfInBounds i true=l':=by(try simp only[List.setIfInBounds_toArray,List.set_cons_zero,List.set_cons_succ]);rfl) (ha:a.put oi.dst v=a':=by(try simp only[Act.put,List.setIfInBounds_toArray,List.set_cons_zero,List.set_cons_succ]);rfl) (hL:waitsFor md ops L i=true:=by kernel_rfl) (hs:Region.noSelect ops=true:=by kernel_rfl) (hf:Region.free md ops listed i=true:=by kernel_rfl) (hr:(Region.ready md ops listed).contains i=true:=by kernel_rfl)
  (hQ:∀c a w,Q (.panic c) (a.put oi.dst v) w→Q (.panic c) a w:=by exact fun _ _ _ h=>h):wpAnyL P md ops Q S L (fuel+1) listed a w:=by subst hl;subst ha;exact wpAnyL_take hi hL hs hf hr hQ hy hS h
section
variable {w w1 w' V:World} {B h:Nat} {s:TS} {qA:Option Addr} {qc:Nat} {lq:List WE} {pA:Option Addr} {pc:Nat} {lp:List PE} {uA:Option Addr} {uc:Nat} {ks:List (Nat→Int)} {F N N':Nat→Prop}
def UO (w w':World) (B h:Nat) (s:TS) (N:Nat→Prop):Prop:=∃qA qc lq pA pc lp uA uc ks,UM w' B h s qA qc lq pA pc lp uA uc ks∧KeepF N w w'∧∀k,uBlk h qA pA uA k→N k∨w.heap.size≤k
theorem UO.comp (hu:UO V w' B h s N') (hk:KeepF N w V) (hN:∀k,N' k→N k∨w.heap.size≤k):UO w w' B h s N:=by
 obtain⟨qA,qc,lq,pA,pc,lp,uA,uc,ks,h1,h2,h3⟩:=hu
 refine⟨qA,qc,lq,pA,pc,lp,uA,uc,ks,h1,hk.trans h2 (fun b hb hn=>(hN b hn).elim id (fun h=>by omega)),fun k hk2=>?_⟩
 rcases h3 k hk2 with h4 | h4
 ·exact hN k h4
 ·exact .inr (Nat.le_trans hk.size h4)
theorem UO.same (m:UM w B h s qA qc lq pA pc lp uA uc ks):UO w w B h s (uBlk h qA pA uA):=⟨qA,qc,lq,pA,pc,lp,uA,uc,ks,m,KeepF.refl,fun k hk=>.inl hk⟩
theorem UO.more (hu:UO w V B h s N) (hb:Below V.heap.size V w'):UO w w' B h s N:=by
 obtain⟨qA,qc,lq,pA,pc,lp,uA,uc,ks,h1,h2,h3⟩:=hu
 exact⟨qA,qc,lq,pA,pc,lp,uA,uc,ks,h1.below hb,h2.more hb,h3⟩
theorem tick_blk {qA':Option Addr} (hA:∀a,qA'=some a→qA=some a∨w.heap.size≤a.block):∀k,uBlk h qA' pA uA k→uBlk h qA pA uA k∨w.heap.size≤k:=fun k hk=>by
 rcases hk with hk | ⟨a,ha,e⟩ | hk | hk
 ·exact .inl (.inl hk)
 ·rcases hA a ha with h1 | h1
  ·exact .inl (.inr (.inl ⟨a,h1,e⟩))
  ·exact .inr (by rw[e];exact h1)
 ·exact .inl (.inr (.inr (.inl hk)))
 ·exact .inl (.inr (.inr (.inr hk)))
theorem UM.newQ (m:UM w B h s qA qc lq pA pc lp uA uc ks) (hk:KeepF (aBlk qA) w w1) (A:Option Addr) (c:Nat) (l:List WE) (hs:SL w1 80 2 A l.length c (l.flatMap WE.cells)) (hl:∀e,e∈l→CPk w B e.A e.v.n e.c e.v.z) (hA:∀a,A=some a→aBlk qA a.block∨w.heap.size≤a.block) :
  UM (w1.setCell ⟨h,41,none⟩ (.slice A l.length c)) B h { s with Q:=l.map (·.v) } A c l pA pc lp uA uc ks∧UO w (w1.setCell ⟨h,41,none⟩ (.slice A l.length c)) B h { s with Q:=l.map (·.v) } (uBlk h qA pA uA):=by
 have hB:∀k,aBlk qA k→B≤k:=fun k ⟨a,ha,e⟩=>by rw[e];exact m.bq a ha
 have hb1:Blk w1 h 76 (uArr s.C.arr s.now s.next (.slice qA lq.length qc) (.slice pA lp.length pc) (.slice uA ks.length uc)):=hk.blk m.blk (fun⟨a,ha,e⟩=>m.hq a ha e)
 have hks:KeepF (fun k=>k=h) w1 (w1.setCell ⟨h,41,none⟩ (.slice A l.length c)):=(KeepF.refl (F:=fun k=>k=h) (w:=w1)).setCell (p:=⟨h,41,none⟩) rfl _
 have hh:∀k,k=h→B≤k:=fun k hf=>by rw[hf];exact m.bh
 have hw1:B≤w1.heap.size:=Nat.le_trans m.bw hk.size
 have hU:UM (w1.setCell ⟨h,41,none⟩ (.slice A l.length c)) B h { s with Q:=l.map (·.v) } A c l pA pc lp uA uc ks:=by
  refine⟨by rw[←uArr_q s.C.arr_size];exact hb1.set_ 41 _,rfl,m.pv,m.kv,hs.keepF hks (fun a e hf=>?_),(m.p.keepF hk (fun a e ⟨a',e',hf⟩=>m.qp a' a e' e hf.symm)).keepF hks (fun a e hf=>m.hp a e hf.symm),(m.u.keepF hk (fun a e ⟨a',e',hf⟩=>m.qu a' a e' e hf.symm)).keepF hks (fun a e hf=>m.hu a e hf.symm),fun e he=>((hl e he).keepF hk m.bw hB).keepF hks hw1 hh,fun e he=>((m.pe e he).keepF hk m.bw hB).keepF hks hw1 hh,m.pr,m.bh,fun a ha=>(hA a ha).elim (fun h=>hB _ h) (fun h=>Nat.le_trans m.bw h),m.bp,m.bu,Nat.le_trans hw1 hks.size,m.now0,m.next0⟩
  obtain⟨cur,hc⟩:=hs.obj e
  exact cells_ne hb1 hc (by decide) hf.symm
 refine⟨hU,A,c,l,pA,pc,lp,uA,uc,ks,hU,(hk.mono (fun b hb=>.inr (.inl hb))).trans hks (fun b hb hn=>.inl hn),fun k hk2=>?_⟩
 rcases hk2 with h1 | ⟨a,ha,e⟩ | h1
 ·exact .inl (.inl h1)
 ·rcases hA a ha with h2 | h2
  ·exact .inl (.inr (.inl (by rw[e];exact h2)))
  ·exact .inr (by rw[e];exact h2)
 ·exact .inl (.inr (.inr h1))
theorem UM.newP (m:UM w B h s qA qc lq pA pc lp uA uc ks) (hk:KeepF (aBlk pA) w w1) (A:Option Addr) (c:Nat) (l:List PE) (hs:SL w1 78 3 A l.length c (l.flatMap PE.cells)) (hl:∀e,e∈l→CPk w B e.A e.v.n e.c e.v.z) (hpr:∀e,e∈l→0≤e.v.ct∧e.v.ct < 4294967296) (hA:∀a,A=some a→aBlk pA a.block∨w.heap.size≤a.block) :
  UM (w1.setCell ⟨h,42,none⟩ (.slice A l.length c)) B h { s with P:=l.map (·.v) } qA qc lq A c l uA uc ks∧UO w (w1.setCell ⟨h,42,none⟩ (.slice A l.length c)) B h { s with P:=l.map (·.v) } (uBlk h qA pA uA):=by
 have hB:∀k,aBlk pA k→B≤k:=fun k ⟨a,ha,e⟩=>by rw[e];exact m.bp a ha
 have hb1:Blk w1 h 76 (uArr s.C.arr s.now s.next (.slice qA lq.length qc) (.slice pA lp.length pc) (.slice uA ks.length uc)):=hk.blk m.blk (fun⟨a,ha,e⟩=>m.hp a ha e)
 have hks:KeepF (fun k=>k=h) w1 (w1.setCell ⟨h,42,none⟩ (.slice A l.length c)):=(KeepF.refl (F:=fun k=>k=h) (w:=w1)).setCell (p:=⟨h,42,none⟩) rfl _
 have hh:∀k,k=h→B≤k:=fun k hf=>by rw[hf];exact m.bh
 have hw1:B≤w1.heap.size:=Nat.le_trans m.bw hk.size
 have hU:UM (w1.setCell ⟨h,42,none⟩ (.slice A l.length c)) B h { s with P:=l.map (·.v) } qA qc lq A c l uA uc ks:=by
  refine⟨by rw[←uArr_p s.C.arr_size];exact hb1.set_ 42 _,m.qv,rfl,m.kv,(m.q.keepF hk (fun a e ⟨a',e',hf⟩=>m.qp a a' e e' hf)).keepF hks (fun a e hf=>m.hq a e hf.symm),hs.keepF hks (fun a e hf=>?_),(m.u.keepF hk (fun a e ⟨a',e',hf⟩=>m.pu a' a e' e hf.symm)).keepF hks (fun a e hf=>m.hu a e hf.symm),fun e he=>((m.qe e he).keepF hk m.bw hB).keepF hks hw1 hh,fun e he=>((hl e he).keepF hk m.bw hB).keepF hks hw1 hh,fun e he=>?_,m.bh,m.bq,fun a ha=>(hA a ha).elim (fun h=>hB _ h) (fun h=>Nat.le_trans m.bw h),m.bu,Nat.le_trans hw1 hks.size,m.now0,m.next0⟩
  ·obtain⟨cur,hc⟩:=hs.obj e
   exact cells_ne hb1 hc (by decide) hf.symm
  ·obtain⟨x,hx,rfl⟩:=List.mem_map.1 he
   exact hpr x hx
 refine⟨hU,qA,qc,lq,A,c,l,uA,uc,ks,hU,(hk.mono (fun b hb=>.inr (.inr (.inl hb)))).trans hks (fun b hb hn=>.inl hn),fun k hk2=>?_⟩
 rcases hk2 with h1 | h1 | ⟨a,ha,e⟩ | h1
 ·exact .inl (.inl h1)
 ·exact .inl (.inr (.inl h1))
 ·rcases hA a ha with h2 | h2
  ·exact .inl (.inr (.inr (.inl (by rw[e];exact h2))))
  ·exact .inr (by rw[e];exact h2)
 ·exact .inl (.inr (.inr (.inr h1)))
theorem UM.inP (m:UM w B h s qA qc lq pA pc lp uA uc ks) (hk:KeepF (aBlk pA) w w1) (l:List PE) (hll:l.length=lp.length) (hs:SL w1 78 3 pA lp.length pc (l.flatMap PE.cells)) (hl:∀e,e∈l→CPk w B e.A e.v.n e.c e.v.z) (hpr:∀e,e∈l→0≤e.v.ct∧e.v.ct < 4294967296) :
  UM w1 B h { s with P:=l.map (·.v) } qA qc lq pA pc l uA uc ks:=by
 have hB:∀k,aBlk pA k→B≤k:=fun k ⟨a,ha,e⟩=>by rw[e];exact m.bp a ha
 refine⟨by rw[hll];exact hk.blk m.blk (fun⟨a,ha,e⟩=>m.hp a ha e),m.qv,rfl,m.kv,m.q.keepF hk (fun a e ⟨a',e',hf⟩=>m.qp a a' e e' hf),by rw[hll];exact hs,m.u.keepF hk (fun a e ⟨a',e',hf⟩=>m.pu a' a e' e hf.symm),fun e he=>(m.qe e he).keepF hk m.bw hB,fun e he=>(hl e he).keepF hk m.bw hB,fun e he=>?_,m.bh,m.bq,m.bp,m.bu,Nat.le_trans m.bw hk.size,m.now0,m.next0⟩
 obtain⟨x,hx,rfl⟩:=List.mem_map.1 he
 exact hpr x hx
theorem src_waitB {W:World} {nb:Nat} (A:Option Addr) (n c:Nat) (x:Int) (hB:Blk W nb 80 #[.slice A n c,.int .i64 x]):Src Tryz.prog 2 73 (.slice (some ⟨nb,0,none⟩) 1 1) 1 [.slice A n c,.int .i64 x] W:=
 Src.ofSlice _ Tryz.underlying73 ⟨nb,0,none⟩ 1 1 _ (by rfl) (fun j u hu=>by
  rw[Addr.add_lit,Nat.zero_add,hB.cell j]
  simpa using hu) (by intro u hu;simp at hu;rcases hu with rfl | rfl<;>rfl)
set_option maxRecDepth 100000 in
set_option maxHeartbeats 6400000 in
theorem usubmit_ok (m:UM w B h s qA qc lq pA pc lp uA uc ks) (hf:s.Fine) (hl:lq.length≤1000000) (t:Int) (ht1:-9223372036854775808≤t) (ht2:t≤9223372036854775807) (A:Option Addr) (n c:Nat) (z:Nat→Int) (hr:Row w B A n (fun j=>.int .u8 (z j))) (hz:∀j,j < n→0≤z j∧z j < 256) (hnc:n≤c) (hn9:n≤maxLen) :
  Calls Tryz.prog 24 #[.pointer (some ⟨h,0,none⟩),.int .i64 t,.slice A n c] w fun e w'=>e=.returned (.int .i64 (s.submit t n z).1)∧UO w w' B h (s.submit t n z).2 (uBlk h qA pA uA):=by
 unfold maxLen at hn9
 have HTK:=zh (utick_ok m hf hl t ht1 ht2)
 have HSM:=zh (UO.same m)
 have HQL:Hid ((s.tick t).Q.length≤1000000):=zh (Nat.le_trans (TS.tick_len s t) (by rw[m.qlen];exact hl))
 have HCP:=zh (fun(h1:1≤n) (h9:n≤9000)=>(⟨h1,h9,hnc,hz,hr⟩:CPk w B A n c z))
 have HBW:=zh (And.intro m.bw m.bh)
 unfold TS.submit
 clear m hf hl hr hz hnc
 by_cases ct:1073741824≤t
 ·rw[if_pos ct]
  rw[if_pos ct,if_pos ct]at HTK
  dsimp only
  go_enter Tryz.func24,Tryz.ntmps24
  go_wp2_with (go_at_call 49;refine(HTK.out).mono ?_;rintro e w1 ⟨rfl,qA1,qc1,lq1,m1,k1,a1⟩;have M1:=zh m1;have K1:=zh k1;have A1:=zh a1;clear m1 k1 a1)
  go_ret
  exact⟨rfl,(UO.same M1.out).comp (K1.out.mono (fun b hb=>.inl hb)) (tick_blk A1.out)⟩
 rw[if_neg ct]
 rw[if_neg ct,if_neg ct]at HTK
 obtain⟨s1,hs1⟩:∃s1,s1=s.tick t:=⟨_,rfl⟩
 have HS1:=zh (show max s.now t=s1.now by rw[hs1];rfl)
 rw[HS1.out]
 rw[←hs1]at HTK HQL ⊢
 clear hs1 ct HS1
 have n0:(0:Int)≤(n:Int):=by omega
 by_cases hn0:n=0
 ·subst hn0
  rw[if_pos rfl]
  dsimp only
  go_enter Tryz.func24,Tryz.ntmps24
  go_wp2_with (go_at_call 49;refine(HTK.out).mono ?_;rintro e w1 ⟨rfl,qA1,qc1,lq1,m1,k1,a1⟩;have M1:=zh m1;have K1:=zh k1;have A1:=zh a1;clear m1 k1 a1)
  go_ret
  exact⟨rfl,(UO.same M1.out).comp (K1.out.mono (fun b hb=>.inl hb)) (tick_blk A1.out)⟩
 rw[if_neg hn0]
 have d0:¬(n:Int)=0:=by omega
 have b0:((n:Int) == 0)=false:=by simpa using d0
 by_cases hn1:9000 < n
 ·rw[if_pos hn1]
  have d1:(9000:Int) < (n:Int):=by omega
  dsimp only
  clear hn1
  go_enter Tryz.func24,Tryz.ntmps24
  go_wp2_with (go_at_call 49;refine(HTK.out).mono ?_;rintro e w1 ⟨rfl,qA1,qc1,lq1,m1,k1,a1⟩;have M1:=zh m1;have K1:=zh k1;have A1:=zh a1;clear m1 k1 a1)
  go_ret
  exact⟨rfl,(UO.same M1.out).comp (K1.out.mono (fun b hb=>.inl hb)) (tick_blk A1.out)⟩
 rw[if_neg hn1]
 have d1:¬(9000:Int) < (n:Int):=by omega
 have HNC:=zh (And.intro (show 1≤n by omega) (show n≤9000 by omega))
 dsimp only
 clear hn1
 go_enter Tryz.func24,Tryz.ntmps24
 go_upto_region 8 with (go_at_call 49;refine(HTK.out).mono ?_;rintro e w1 ⟨rfl,qA1,qc1,lq1,m1,k1,a1⟩;have M1:=zh m1;have K1:=zh k1;have A1:=zh a1;clear m1 k1 a1)
 obtain⟨i0,hi0,hz0,hz1,hz2⟩:=infoWaitU
 have HLQ:Hid (lq1.length≤1000000):=zh (by rw[←M1.out.qlen];exact HQL.out)
 obtain⟨nw,hnw⟩:∃nw,nw=s1.now:=⟨_,rfl⟩
 have HNW:=zh hnw
 clear hnw
 have hlq:=HLQ.out
 obtain⟨q1,hq1⟩:∃q1,q1=lq1.length:=⟨_,rfl⟩
 have HQ1:=zh hq1
 rw[←hq1]at hlq
 clear hq1 HTK HQL
 have HC:=zh (show ∀W,KeepF (aBlk qA1) w1 W→W.cell? ⟨h,39,none⟩=some (.int .i64 nw)∧W.cell? ⟨h,41,none⟩=some (.slice qA1 q1 qc1)∧W.frozen? ⟨h,41,none⟩=false from fun W hW=>by
  have hb:=hW.blk M1.out.blk (fun⟨a,ha,e⟩=>M1.out.hq a ha e)
  rw[HNW.out,HQ1.out]
  exact⟨(hb.cell 39).trans (uArr_high s1.C.arr_size 0),(hb.cell 41).trans (uArr_high s1.C.arr_size 2),hb.frozen 41⟩)
 refine wp_region_L (L:=15) (S:=fun w'=>KeepF (aBlk qA1) w1 w') (by kernel_rfl) (KeepF.refl.drew) (fun hHeld=>?_)
 obtain⟨w0,hw0⟩:∃w0,w0=w1.drew:=⟨_,rfl⟩
 rw[←hw0]
 rw[←hw0]at hHeld
 have hb0:Below w1.heap.size w1 w0:=by rw[hw0];exact(Below.refl _ _).drew
 clear hw0
 refine tkL (i:=0) (oi:=⟨some 20,_,_,_,_,_⟩) (v:=.pointer (some ⟨h,0,none⟩)) rfl (Or.inl ⟨by rfl,fun W hW=>(by rfl)⟩) (by assumption) ?_
 refine tkL (i:=1) (oi:=⟨some 21,_,_,_,_,_⟩) (v:=.pointer (some ⟨h,0,none⟩)) rfl (Or.inl ⟨by rfl,fun W hW=>(by rfl)⟩) (by assumption) ?_
 refine tkL (i:=2) (oi:=⟨some 22,_,_,_,_,_⟩) (v:=.pointer (some ⟨h,0,none⟩)) rfl (Or.inl ⟨by rfl,fun W hW=>(by go_simp)⟩) (by assumption) ?_
 refine tkL (i:=3) (oi:=⟨some 23,_,_,_,_,_⟩) (v:=.pointer (some ⟨h,41,none⟩)) rfl (Or.inl ⟨by rfl,fun W hW=>(by go_simp)⟩) (by assumption) ?_
 refine tkL (i:=4) (oi:=⟨some 24,_,_,_,_,_⟩) (v:=.slice qA1 q1 qc1) rfl (Or.inl ⟨by rfl,fun W hW=>(by obtain⟨x0,x1,x2⟩:=HC.out W hW;go_simp)⟩) (by assumption) ?_
 refine tkL (i:=5) (oi:=⟨some 25,_,_,_,_,_⟩) (v:=.slice A n c) rfl (Or.inl ⟨by rfl,fun W hW=>(by rfl)⟩) (by assumption) ?_
 refine tkL (i:=6) (oi:=⟨some 26,_,_,_,_,_⟩) (v:=.pointer (some ⟨h,0,none⟩)) rfl (Or.inl ⟨by rfl,fun W hW=>(by rfl)⟩) (by assumption) ?_
 refine tkL (i:=7) (oi:=⟨some 27,_,_,_,_,_⟩) (v:=.pointer (some ⟨h,0,none⟩)) rfl (Or.inl ⟨by rfl,fun W hW=>(by go_simp)⟩) (by assumption) ?_
 refine tkL (i:=8) (oi:=⟨some 28,_,_,_,_,_⟩) (v:=.pointer (some ⟨h,39,none⟩)) rfl (Or.inl ⟨by rfl,fun W hW=>(by go_simp)⟩) (by assumption) ?_
 refine tkL (i:=9) (oi:=⟨some 29,_,_,_,_,_⟩) (v:=.int .i64 nw) rfl (Or.inl ⟨by rfl,fun W hW=>(by obtain⟨x0,x1,x2⟩:=HC.out W hW;go_simp)⟩) (by assumption) ?_
 refine tkL (i:=10) (oi:=⟨some 30,_,_,_,_,_⟩) (v:=.agg #[.slice A n c,.int .i64 nw]) rfl (Or.inl ⟨by rfl,fun W hW=>(by go_simp)⟩) (by assumption) ?_
 refine wpAnyL_one (i:=11) (o:=⟨some 31,_,_,_,_,_⟩) (by kernel_rfl) rfl (fun K hK=>?_)
 rw[if_pos (by rfl)]
 go_simp
 obtain⟨u2,hu2⟩:∃X,X=w0.alloc (.cells #[.slice A n c,.int .i64 nw] 80):=⟨_,rfl⟩
 obtain⟨nb,hnb⟩:∃nb,nb=w0.heap.size:=⟨_,rfl⟩
 have hNB:Blk u2 nb 80 #[.slice A n c,.int .i64 nw]:=by rw[hu2,hnb];exact Blk.new _ _ _
 have hb3:Below w1.heap.size w1 u2:=by rw[hu2];exact hb0.alloc hb0.size _
 have hE2:KeepF (aBlk qA1) w1 u2:=KeepF.of_below hb3
 rw[←hu2,←hnb]
 refine hK.out _ _ hE2 (fun hHeld=>?_)
 clear hK K hu2 hnb
 try simp only[Act.put,List.setIfInBounds_toArray,List.set_cons_zero,List.set_cons_succ]
 refine wpAnyL_one (i:=12) (o:=⟨some 32,_,_,_,_,_⟩) (by kernel_rfl) rfl (fun K hK=>?_)
 rw[if_pos (by rfl)]
 refine wp_sl_append _ _ 73 73 rfl u2 80 i0 (.agg #[.slice none 0 0,.int .i64 0]) 2 32 Tryz.underlying73 hi0 hz0 hz1 hz2 rfl qA1 q1 qc1 (lq1.flatMap WE.cells) rfl (by rw[HQ1.out];exact M1.out.q.next hb3) (.slice (some ⟨nb,0,none⟩) 1 1) rfl 1 [.slice A n c,.int .i64 nw] (src_waitB A n c nw hNB) (by decide) (by unfold maxLen;omega) (by omega) (fun A9 c9 u3 hs9 hk9 ha9=>?_)
 have hE3:KeepF (aBlk qA1) w1 u3:=hE2.trans hk9 (fun _ _ h=>h)
 obtain⟨xe,hxe⟩:∃xe:WE,xe=⟨⟨n,z,nw⟩,A,c⟩:=⟨_,rfl⟩
 have hlen:(lq1++[xe]).length=q1+1:=by rw[List.length_append,HQ1.out];rfl
 have hs9':SL u3 80 2 A9 (lq1++[xe]).length c9 ((lq1++[xe]).flatMap WE.cells):=by
  rw[hlen,List.flatMap_append,hxe]
  exact hs9
 have hNQ:=M1.out.newQ hE3 A9 c9 (lq1++[xe]) hs9' (fun e he=>by
  rcases List.mem_append.1 he with he | he
  ·exact M1.out.qe e he
  ·rw[List.mem_singleton.1 he,hxe]
   exact(HCP.out HNC.out.1 HNC.out.2).keepF K1.out HBW.out.1 (fun k hk=>by rw[hk];exact HBW.out.2)) (fun a ha=>by
  rcases ha9 a ha with ⟨a',e1,e2⟩ | h2
  ·exact .inl ⟨a',e1,e2⟩
  ·exact .inr (Nat.le_trans hb3.size h2))
 have HNQ:=zh (hNQ.2.comp (K1.out.mono (fun b hb=>.inl hb)) (tick_blk A1.out))
 have HSQ:Hid ((lq1++[xe]).map (·.v)=s1.Q++[⟨n,z,s1.now⟩]):=zh (by rw[List.map_append,M1.out.qv,hxe,HNW.out];rfl)
 rw[hlen]at HNQ
 rw[HSQ.out]at HNQ
 have HE3:=zh hE3
 refine hK.out _ _ hE3 (fun hHeld=>?_)
 clear hK K hs9 hk9 ha9 hNQ hs9' hlen hxe
 try simp only[Act.put,List.setIfInBounds_toArray,List.set_cons_zero,List.set_cons_succ]
 refine wpAnyL_one (i:=13) (o:=⟨some 33,_,_,_,_,_⟩) (by kernel_rfl) rfl (fun K hK=>?_)
 rw[if_pos (by rfl)]
 go_simp
 refine hK.out _ _ HE3.out (fun hHeld=>?_)
 clear hK K
 try simp only[Act.put,List.setIfInBounds_toArray,List.set_cons_zero,List.set_cons_succ]
 refine tkL (i:=14) (oi:=⟨some 34,_,_,_,_,_⟩) (v:=.pointer (some ⟨h,41,none⟩)) rfl (Or.inl ⟨by rfl,fun W hW=>(by go_simp)⟩) (by assumption) ?_
 refine wpAnyL_last (o:=⟨none,_,_,_,_,_⟩) (by kernel_rfl) (by kernel_rfl) rfl (fun K hK=>?_)
 rw[if_pos (by rfl)]
 obtain⟨x0,x1,x2⟩:=HC.out u3 HE3.out
 go_simp
 clear x0 x1 x2
 refine hK.out _ _ ?_
 clear hK K hHeld
 try simp only[Act.put]
 generalize u3.setCell ⟨h,41,none⟩ (.slice A9 (q1+1) c9)=V9 at HNQ ⊢
 go_wp2
 go_ret
 exact⟨rfl,HNQ.out⟩
end
end Go.Proofs.YtjanmleoomoedaaGreat
namespace Go.Proofs.YtjanmleoomoedaaGreat
open Go.RowKit
set_option linter.unusedVariables false
attribute [local go_sem ↓] Go.wp_at_zero Go.wp_at_succ
section
variable {w w1 w' V:World} {B h:Nat} {s:TS} {qA:Option Addr} {qc:Nat} {lq:List WE} {pA:Option Addr} {pc:Nat} {lp:List PE} {uA:Option Addr} {uc:Nat} {ks:List (Nat→Int)} {F N N':Nat→Prop}
def PduOK (cf:Cfg):Prop:=∀(x:Int),0≤x∧x < 4294967296→∀(w:World) (B:Nat) (A:Option Addr) (n c:Nat) (z:Nat→Int),CPk w B A n c z→B≤w.heap.size→
 Calls Tryz.prog 50 #[.agg cf.arr,.int .u32 x,.slice A n c] w fun e w'=>∃A' c',e=.returned (.slice A' (pduN cf n) c')∧pduN cf n≤c'∧Row w' w'.heap.size A' (pduN cf n) (fun j=>.int .u8 ((pduZ cf x.toNat n (nf z) j:Nat):Int))∧Below w.heap.size w w'
def USO (w:World) (B h:Nat) (N:Nat→Prop) (x:NX) (e:Ending) (w':World):Prop:=∃A c,e=.returned (.tuple #[.slice A x.n c,.int .u32 x.ct,.int .i64 x.e])∧x.n≤c∧Row w' w'.heap.size A x.n (fun j=>.int .u8 ((x.z j:Nat):Int))∧UO w w' B h x.s N
theorem uso_err (hu:UO w w' B h s N) (e:Int):USO w B h N ⟨0,zB,0,e,s⟩ (.returned (.tuple #[.slice none 0 0,.int .u32 0,.int .i64 e])) w':=
 ⟨none,0,rfl,Nat.le_refl _,fun hn=>absurd hn (by show ¬0 < 0;omega),hu⟩
theorem uso_eq {x y:NX} {e:Ending} (hs:USO w B h N x e w') (hxy:x=y):USO w B h N y e w':=hxy ▸ hs
set_option maxRecDepth 100000 in
set_option maxHeartbeats 6400000 in
theorem usend_late (m:UM w B h s qA qc lq pA pc lp uA uc ks) (hf:s.Fine) (hl:lq.length≤1000000) (t:Int) (ht1:-9223372036854775808≤t) (ht2:t≤9223372036854775807) (ct:1073741824≤t) :
  Calls Tryz.prog 25 #[.pointer (some ⟨h,0,none⟩),.int .i64 t] w (USO w B h (uBlk h qA pA uA) (s.send t)):=by
 have HTK:=zh (utick_ok m hf hl t ht1 ht2)
 rw[if_pos ct,if_pos ct]at HTK
 unfold TS.send
 rw[if_pos ct]
 clear m hf hl
 go_enter Tryz.func25,Tryz.ntmps25
 go_wp2_with (go_at_call 49;refine(HTK.out).mono ?_;rintro e w1 ⟨rfl,qA1,qc1,lq1,m1,k1,a1⟩;have M1:=zh m1;have K1:=zh k1;have A1:=zh a1;clear m1 k1 a1)
 go_ret3
 exact uso_err ((UO.same M1.out).comp (K1.out.mono (fun b hb=>.inl hb)) (tick_blk A1.out)) 2
set_option maxRecDepth 100000 in
set_option maxHeartbeats 6400000 in
theorem usend_rep (m:UM w B h s qA qc lq pA pc lp uA uc ks) (hf:s.Fine) (hpdu:PduOK s.C) (hl:lq.length≤1000000) (hlp:lp.length≤1000000) (t:Int) (ht1:-9223372036854775808≤t) (ht2:t≤9223372036854775807) (ct:¬1073741824≤t) (i:Nat) (p:PV) (hrep:firstRep s.P=some (i,p)) :
  Calls Tryz.prog 25 #[.pointer (some ⟨h,0,none⟩),.int .i64 t] w (USO w B h (uBlk h qA pA uA) (s.send t)):=by
 have HTK:=zh (utick_ok m hf hl t ht1 ht2)
 rw[if_neg ct,if_neg ct]at HTK
 have HF1:=zh (hf.tick t)
 have HRP:=zh hrep
 have HPL:Hid (s.P.length≤1000000):=zh (by rw[m.plen];exact hlp)
 have HQL:Hid ((s.tick t).Q.length≤1000000):=zh (Nat.le_trans (TS.tick_len s t) (by rw[m.qlen];exact hl))
 have HPO:=zh hpdu
 unfold TS.send
 rw[if_neg ct,hrep]
 dsimp only
 obtain⟨s1,hs1⟩:∃s1,s1=s.tick t:=⟨_,rfl⟩
 have HC1:Hid (s1.C=s.C):=zh (by rw[hs1];rfl)
 have HP1:Hid (s1.P=s.P):=zh (by rw[hs1];rfl)
 have HN1:Hid (s1.next=s.next):=zh (by rw[hs1];rfl)
 rw[←hs1]at HTK HQL HF1 ⊢
 have HS1:=zh hs1
 clear hs1 ct m hf hl hlp hrep hpdu
 obtain⟨n,hn⟩:∃n,n=lp.length:=⟨_,rfl⟩
 have HLN:=zh hn
 clear hn
 go_enter Tryz.func25,Tryz.ntmps25
 go_upto_region 4 with (go_at_call 49;refine(HTK.out).mono ?_;rintro e w1 ⟨rfl,qA1,qc1,lq1,m1,k1,a1⟩;have M1:=zh m1;have K1:=zh k1;have A1:=zh a1;clear m1 k1 a1)
 have hn9:(n:Int)≤1000000:=by have h1:=HPL.out;rw[←HP1.out,M1.out.plen,←HLN.out]at h1;omega
 have hn90:n≤1000000:=by omega
 have n0:(0:Int)≤(n:Int):=by omega
 have HFR:=zh (firstRep_some HRP.out)
 have hin:i < n:=by
  have h1:=(List.getElem?_eq_some_iff.1 HFR.out.1).1
  rw[←HP1.out,M1.out.plen,←HLN.out]at h1
  exact h1
 go_wp2
 go_loopw [8] (fun v8 wr=>∃k:Nat,k≤i∧v8=.int .i64 k∧Below w1.heap.size w1 wr) (fun v8 _=>i+1-(intOf v8).toNat)
 case atStart=>exact⟨0,by omega,rfl,Below.refl _ _⟩
 case round=>
  obtain⟨k,hk,rfl,hB⟩:=hrel
  have HB:=zh hB
  have k0:(0:Int)≤(k:Int):=by omega
  have y42:wr.cell? ⟨h,42,none⟩=some (.slice pA n pc):=by rw[HLN.out];exact(M1.out.below hB).cp
  have hkn:k < n:=by omega
  obtain⟨e,he⟩:∃e,lp[k]? = some e:=⟨_,List.getElem?_eq_getElem (by rw[←HLN.out];exact hkn)⟩
  obtain⟨b,o,hpA,hb,c0,c1,c2⟩:=(M1.out.below hB).pcell he
  have hPk:s.P[k]? = some e.v:=by rw[←HP1.out,←M1.out.pv,List.getElem?_map,he];rfl
  subst hpA
  have HE:=zh (And.intro he hPk)
  have k1:(k:Int) < (n:Int):=by omega
  by_cases hki:k < i
  ·have hr:e.v.rep=false:=HFR.out.2.2 k hki e.v hPk
   rw[hr]at c2
   clear hB he hPk c0 c1 hr hkn
   go_wp2
   go_roundw
   case rel=>exact⟨k+1,by omega,by go_num,HB.out⟩
   case measure=>simp[intOf];omega
  ·have hki2:i=k:=by omega
   have hep:e.v=p:=by
    have h1:=HFR.out.1
    rw[hki2,hPk]at h1
    exact Option.some.inj h1
   have hr:e.v.rep=true:=by rw[hep];exact HFR.out.2.1
   rw[hr]at c2
   have HKI:=zh (And.intro hki2 hep)
   have hMr:=M1.out.below hB
   have f2:wr.frozen? ⟨b,o+k*3+2,none⟩=false:=hMr.p.frozen rfl _
   obtain⟨e2,he2⟩:∃e2:PE,e2={ e with v:={ e.v with rep:=false } }:=⟨_,rfl⟩
   have hfl:(lp.flatMap PE.cells).set (k*3+2) (.bool false)=(lp.set k e2).flatMap PE.cells:=by rw[he2];exact rep_set lp k e he
   have hS:=hMr.p.setOne (k*3+2) (by have:=Nat.mul_le_mul_right 3 (show k+1≤lp.length by rw[←HLN.out];exact hkn);rw[Nat.add_mul]at this;omega) (.bool false)
   rw[←Nat.add_assoc,hfl]at hS
   have hkp:KeepF (aBlk (some ⟨b,o,none⟩)) wr (wr.setCell ⟨b,o+k*3+2,none⟩ (.bool false)):=KeepF.refl.setCell (p:=⟨b,o+k*3+2,none⟩) ⟨_,rfl,rfl⟩ _
   have hM2:=hMr.inP hkp (lp.set k e2) (by simp) hS (fun x hx=>by
    rcases List.mem_or_eq_of_mem_set hx with hx | hx
    ·exact hMr.pe x hx
    ·rw[hx,he2];exact hMr.pe e (List.mem_of_getElem? he)) (fun x hx=>by
    rcases List.mem_or_eq_of_mem_set hx with hx | hx
    ·exact hMr.pr x.v (by rw[←hMr.pv];exact List.mem_map_of_mem hx)
    ·rw[hx,he2];exact hMr.pr e.v (by rw[←hMr.pv];exact List.mem_map_of_mem (List.mem_of_getElem? he)))
   have hQ2:(lp.set k e2).map (·.v)=s.P.set i { p with rep:=false }:=by
    rw[List.map_set,M1.out.pv,HP1.out,hki2,he2,←hep]
   rw[hQ2]at hM2
   have hek:(lp.set k e2)[k]? = some e2:=List.getElem?_set_self (by rw[←HLN.out];exact hkn)
   have hkk:KeepF (uBlk h qA1 (some ⟨b,o,none⟩) uA) w1 (wr.setCell ⟨b,o+k*3+2,none⟩ (.bool false)):=(KeepF.of_below hB).trans (hkp.mono (fun b hb=>.inr (.inr (.inl hb)))) (fun _ _ h=>h)
   have HEV:=zh (show e2.v.ct=p.ct∧e2.v.n=p.n∧e2.v.z=p.z∧e2.A=e.A∧e2.c=e.c from by rw[he2,←hep];exact⟨rfl,rfl,rfl,rfl,rfl⟩)
   have HSN:=zh (show(lp.set k e2).length=n from by rw[List.length_set];exact HLN.out.symm)
   clear hB he hPk c0 c1 hr hS hfl hMr hkp hki hep he2 hQ2
   go_upto_region 9 with (fail)
   refine wp_let (fun X=>UM X B h { s1 with P:=s.P.set i { p with rep:=false } } qA1 qc1 lq1 (some ⟨b,o,none⟩) pc (lp.set k e2) uA uc ks∧KeepF (uBlk h qA1 (some ⟨b,o,none⟩) uA) w1 X) ⟨hM2,hkk⟩ ?_
   rintro X ⟨x1,x2⟩
   have MX:=zh x1
   have KX:=zh x2
   obtain⟨b',o',hpe,hbl,d0,d1,d2⟩:=x1.pcell hek
   cases hpe
   have hct:=x1.pr e2.v (by rw[←x1.pv];exact List.mem_map_of_mem (List.mem_of_getElem? hek))
   have hpk:=x1.pe e2 (List.mem_of_getElem? hek)
   rw[HEV.out.2.1,HEV.out.2.2.1]at hpk
   rw[HEV.out.1]at hct d0
   rw[HEV.out.2.1]at d1
   have HPK:=zh hpk
   have HCT:=zh hct
   obtain⟨x,hx⟩:∃x,x=p.ct:=⟨_,rfl⟩
   obtain⟨pn,hpn⟩:∃pn,pn=p.n:=⟨_,rfl⟩
   obtain⟨pz,hpz⟩:∃pz,pz=p.z:=⟨_,rfl⟩
   rw[←hx]at d0 HCT
   rw[←hpn]at d1 HPK
   rw[←hpz]at HPK
   have hPD:=fun(W:World) (hW:Below X.heap.size X W)=>HPO.out x HCT.out W B e2.A pn e2.c pz (HPK.out.keepF (KeepF.of_below (F:=fun _=>False) hW) MX.out.bw (fun _ hf=>hf.elim)) (Nat.le_trans MX.out.bw hW.size)
   have HEQ:=zh (And.intro hx (And.intro hpn hpz))
   obtain⟨CA,hCA⟩:∃CA,CA=s.C.arr:=⟨_,rfl⟩
   rw[←hCA]at hPD
   have HPD:=zh hPD
   have HC:=zh (show ∀W,Below X.heap.size X W→W.rangeAt h 0 CA.toList∧W.cell? ⟨h,42,none⟩=some (.slice (some ⟨b,o,none⟩) n pc)∧W.cell? ⟨b,o+k*3,none⟩=some (.int .u32 x)∧W.cell? ⟨b,o+k*3+1,none⟩=some (.slice e2.A pn e2.c)from fun W hW=>by
    refine⟨fun j v hv=>?_,?_,?_,?_⟩
    ·have hj:j < 39:=by have:=(List.getElem?_eq_some_iff.1 hv).1;rw[hCA]at this;simpa[Cfg.arr_size]using this
     rw[Nat.zero_add,hW.cell (p:=⟨h,j,none⟩) x1.blk.lt,x1.blk.cell j,uArr_low (Cfg.arr_size _) hj,←hv,Array.getElem?_toList,hCA,←HC1.out]
    ·rw[hW.cell (p:=⟨h,42,none⟩) x1.blk.lt,x1.cp,HSN.out]
    ·exact(hW.cell (p:=⟨b,o+k*3,none⟩) hbl).trans d0
    ·exact(hW.cell (p:=⟨b,o+k*3+1,none⟩) hbl).trans d1)
   have HUP:=zh Tryz.underlying25
   have HSP:Hid ((Tryz.prog.info? 25).map (·.size)=some CA.toList.length):=zh (by rw[hCA,Array.length_toList,s.C.arr_size];exact infoPd)
   clear x1 x2 hM2 hkk hek d0 d1 d2 hct hpk hx hpn hpz hPD hCA c2 f2 y42 hb hki2
   refine wp_region_held_drew (S:=fun w'=>Below X.heap.size X w') (by kernel_rfl) (Below.refl _ X).drew (fun hHeld=>?_)
   obtain⟨u0,hu0⟩:∃u0,u0=X.drew:=⟨_,rfl⟩
   rw[←hu0]
   rw[←hu0]at hHeld
   have HW0:=zh (show Below X.heap.size X u0 by rw[hu0];exact(Below.refl _ X).drew)
   clear hu0
   refine tkH (i:=0) (oi:=⟨some 41,_,_,_,_,_⟩) (v:=.pointer (some ⟨h,0,none⟩)) rfl (Or.inl ⟨by rfl,fun W hW=>(by rfl)⟩) (by assumption) ?_
   refine tkH (i:=1) (oi:=⟨some 42,_,_,_,_,_⟩) (v:=.pointer (some ⟨h,0,none⟩)) rfl (Or.inl ⟨by rfl,fun W hW=>(by go_simp)⟩) (by assumption) ?_
   refine tkH (i:=2) (oi:=⟨some 43,_,_,_,_,_⟩) (v:=.pointer (some ⟨h,0,none⟩)) rfl (Or.inl ⟨by rfl,fun W hW=>(by go_simp)⟩) (by assumption) ?_
   refine' tkH (i:=3) (oi:=⟨some 44,_,_,_,_,_⟩) (v:=_) rfl (yieldsIf_load_mid (by rfl) _ _ rfl h 0 rfl CA.toList _ (fun W hW=>(HC.out W hW).1) HUP.out rfl HSP.out) (by assumption) ?_
   refine tkH (i:=4) (oi:=⟨some 45,_,_,_,_,_⟩) (v:=.pointer (some ⟨h,0,none⟩)) rfl (Or.inl ⟨by rfl,fun W hW=>(by rfl)⟩) (by assumption) ?_
   refine tkH (i:=5) (oi:=⟨some 46,_,_,_,_,_⟩) (v:=.pointer (some ⟨h,0,none⟩)) rfl (Or.inl ⟨by rfl,fun W hW=>(by go_simp)⟩) (by assumption) ?_
   refine tkH (i:=6) (oi:=⟨some 47,_,_,_,_,_⟩) (v:=.pointer (some ⟨h,42,none⟩)) rfl (Or.inl ⟨by rfl,fun W hW=>(by go_simp)⟩) (by assumption) ?_
   refine tkH (i:=7) (oi:=⟨some 48,_,_,_,_,_⟩) (v:=.slice (some ⟨b,o,none⟩) n pc) rfl (Or.inl ⟨by rfl,fun W hW=>(by obtain⟨x0,x1,x2,x3⟩:=HC.out W hW;go_simp)⟩) (by assumption) ?_
   refine tkH (i:=8) (oi:=⟨some 49,_,_,_,_,_⟩) (v:=.int .i64 (k:Int)) rfl (Or.inl ⟨by rfl,fun W hW=>(by rfl)⟩) (by assumption) ?_
   refine tkH (i:=9) (oi:=⟨some 50,_,_,_,_,_⟩) (v:=.pointer (some ⟨b,o+k*3,none⟩)) rfl (Or.inl ⟨by rfl,fun W hW=>(by go_simp)⟩) (by assumption) ?_
   refine tkH (i:=10) (oi:=⟨some 51,_,_,_,_,_⟩) (v:=.pointer (some ⟨b,o+k*3,none⟩)) rfl (Or.inl ⟨by rfl,fun W hW=>(by go_simp)⟩) (by assumption) ?_
   refine tkH (i:=11) (oi:=⟨some 52,_,_,_,_,_⟩) (v:=.int .u32 x) rfl (Or.inl ⟨by rfl,fun W hW=>(by obtain⟨x0,x1,x2,x3⟩:=HC.out W hW;go_simp)⟩) (by assumption) ?_
   refine tkH (i:=12) (oi:=⟨some 53,_,_,_,_,_⟩) (v:=.pointer (some ⟨h,0,none⟩)) rfl (Or.inl ⟨by rfl,fun W hW=>(by rfl)⟩) (by assumption) ?_
   refine tkH (i:=13) (oi:=⟨some 54,_,_,_,_,_⟩) (v:=.pointer (some ⟨h,0,none⟩)) rfl (Or.inl ⟨by rfl,fun W hW=>(by go_simp)⟩) (by assumption) ?_
   refine tkH (i:=14) (oi:=⟨some 55,_,_,_,_,_⟩) (v:=.pointer (some ⟨h,42,none⟩)) rfl (Or.inl ⟨by rfl,fun W hW=>(by go_simp)⟩) (by assumption) ?_
   refine tkH (i:=15) (oi:=⟨some 56,_,_,_,_,_⟩) (v:=.slice (some ⟨b,o,none⟩) n pc) rfl (Or.inl ⟨by rfl,fun W hW=>(by obtain⟨x0,x1,x2,x3⟩:=HC.out W hW;go_simp)⟩) (by assumption) ?_
   refine tkH (i:=16) (oi:=⟨some 57,_,_,_,_,_⟩) (v:=.int .i64 (k:Int)) rfl (Or.inl ⟨by rfl,fun W hW=>(by rfl)⟩) (by assumption) ?_
   refine tkH (i:=17) (oi:=⟨some 58,_,_,_,_,_⟩) (v:=.pointer (some ⟨b,o+k*3,none⟩)) rfl (Or.inl ⟨by rfl,fun W hW=>(by go_simp)⟩) (by assumption) ?_
   refine tkH (i:=18) (oi:=⟨some 59,_,_,_,_,_⟩) (v:=.pointer (some ⟨b,o+k*3+1,none⟩)) rfl (Or.inl ⟨by rfl,fun W hW=>(by go_simp)⟩) (by assumption) ?_
   refine tkH (i:=19) (oi:=⟨some 60,_,_,_,_,_⟩) (v:=.slice e2.A pn e2.c) rfl (Or.inl ⟨by rfl,fun W hW=>(by obtain⟨x0,x1,x2,x3⟩:=HC.out W hW;go_simp)⟩) (by assumption) ?_
   refine tkH (i:=21) (oi:=⟨some 62,_,_,_,_,_⟩) (v:=.pointer (some ⟨h,0,none⟩)) rfl (Or.inl ⟨by rfl,fun W hW=>(by rfl)⟩) (by assumption) ?_
   refine tkH (i:=22) (oi:=⟨some 63,_,_,_,_,_⟩) (v:=.pointer (some ⟨h,0,none⟩)) rfl (Or.inl ⟨by rfl,fun W hW=>(by go_simp)⟩) (by assumption) ?_
   refine tkH (i:=23) (oi:=⟨some 64,_,_,_,_,_⟩) (v:=.pointer (some ⟨h,42,none⟩)) rfl (Or.inl ⟨by rfl,fun W hW=>(by go_simp)⟩) (by assumption) ?_
   refine tkH (i:=24) (oi:=⟨some 65,_,_,_,_,_⟩) (v:=.slice (some ⟨b,o,none⟩) n pc) rfl (Or.inl ⟨by rfl,fun W hW=>(by obtain⟨x0,x1,x2,x3⟩:=HC.out W hW;go_simp)⟩) (by assumption) ?_
   refine tkH (i:=25) (oi:=⟨some 66,_,_,_,_,_⟩) (v:=.int .i64 (k:Int)) rfl (Or.inl ⟨by rfl,fun W hW=>(by rfl)⟩) (by assumption) ?_
   refine tkH (i:=26) (oi:=⟨some 67,_,_,_,_,_⟩) (v:=.pointer (some ⟨b,o+k*3,none⟩)) rfl (Or.inl ⟨by rfl,fun W hW=>(by go_simp)⟩) (by assumption) ?_
   refine tkH (i:=27) (oi:=⟨some 68,_,_,_,_,_⟩) (v:=.pointer (some ⟨b,o+k*3,none⟩)) rfl (Or.inl ⟨by rfl,fun W hW=>(by go_simp)⟩) (by assumption) ?_
   refine tkH (i:=28) (oi:=⟨some 69,_,_,_,_,_⟩) (v:=.int .u32 x) rfl (Or.inl ⟨by rfl,fun W hW=>(by obtain⟨x0,x1,x2,x3⟩:=HC.out W hW;go_simp)⟩) (by assumption) ?_
   refine wpAnyH_ready (rs:=[20]) (by kernel_rfl) (by simp) ?_
   refine AllReadyH.cons (o:=⟨some 61,_,_,_,_,_⟩) rfl (fun K hK=>?_) AllReadyH.nil
   rw[if_pos (by rfl)]
   go_simp
   refine(HPD.out u0 HW0.out).mono ?_
   rintro en u1 ⟨A',c',rfl,hcap,hrow,hb2⟩
   dsimp only
   have HB2:=zh (HW0.out.trans (hb2.mono HW0.out.size))
   have HROW:=zh (And.intro hcap hrow)
   refine hK.out _ _ HB2.out (fun hHeld=>?_)
   clear hK K hb2 hcap hrow
   try simp only[Act.put,List.setIfInBounds_toArray,List.set_cons_zero,List.set_cons_succ]
   refine tkH (i:=29) (oi:=⟨some 4,_,_,_,_,_⟩) (v:=.slice A' (pduN s.C pn) c') rfl (Or.inl ⟨by rfl,fun W hW=>(by rfl)⟩) (by assumption) ?_
   refine tkH (i:=30) (oi:=⟨some 5,_,_,_,_,_⟩) (v:=.int .u32 x) rfl (Or.inl ⟨by rfl,fun W hW=>(by rfl)⟩) (by assumption) ?_
   refine tkH (i:=31) (oi:=⟨some 6,_,_,_,_,_⟩) (v:=.int .i64 0) rfl (Or.inl ⟨by rfl,fun W hW=>(by rfl)⟩) (by assumption) ?_
   refine wpAnyH_done (by kernel_rfl) ?_ _
   go_wp2
   go_ret3
   refine uso_eq (x:=⟨pduN s.C pn,pduZ s.C x.toNat pn (nf pz),x,0,{ s1 with P:=s.P.set i { p with rep:=false } }⟩) ⟨A',c',rfl,HROW.out.1,HROW.out.2,?_⟩ (by rw[HEQ.out.1,HEQ.out.2.1,HEQ.out.2.2])
   have hU:UO w1 u1 B h { s1 with P:=s.P.set i { p with rep:=false } } (uBlk h qA1 (some ⟨b,o,none⟩) uA):=⟨_,_,_,_,_,_,_,_,_,MX.out.below HB2.out,KX.out.more HB2.out,fun k hk=>.inl hk⟩
   exact hU.comp (K1.out.mono (fun b hb=>.inl hb)) (tick_blk A1.out)
end
end Go.Proofs.YtjanmleoomoedaaGreat

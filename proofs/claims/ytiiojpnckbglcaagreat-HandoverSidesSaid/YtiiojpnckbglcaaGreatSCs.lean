import Derived.Test.YtiiojpnckbglcaaGreatMZMs
import Derived.Deep.RegionHeld3
import Derived.Test.YtiiojpnckbglcaaGreatB1s
set_option maxRecDepth 100000
set_option maxHeartbeats 12800000
set_option linter.unusedVariables false
set_option linter.unusedSimpArgs false
namespace Go.Proofs.YtiiojpnckbglcaaGreat
open Go.RowKit
def jX (w:World) (k:Nat):Prop:=∃cur t,w.heap[k]? = some (.cells cur t (0,0))
theorem jX.lt {w:World} {k:Nat} (h:jX w k):k < w.heap.size:=by
 obtain⟨cur,t,h⟩:=h
 exact(Array.getElem?_eq_some_iff.1 h).1
theorem jX.keep {w w':World} {k:Nat} (h:jX w k) (e:w'.heap[k]? = w.heap[k]?):jX w' k:=by
 obtain⟨cur,t,h⟩:=h
 exact⟨cur,t,e.trans h⟩
theorem jX.keepF {F:Nat->Prop} {w w':World} {k:Nat} (h:jX w k) (hk:aa F w w') (hn:¬F k):jX w' k:=h.keep (hk.block k h.lt hn)
theorem jX.below {w w':World} {k:Nat} (h:jX w k) (hb:Below w.heap.size w w'):jX w' k:=h.keep (hb.block k h.lt)
theorem xy {w:World} {base n sz:Nat} {e:TypeId} {A:Option Addr} {c:Nat} {xs:List Value} (h:w.ownsRow base e sz (.slice A n c) n xs):∀a,A=some a->jX w a.block:=fun a ha=>by
 obtain⟨hl,⟨hv,hn⟩ | ⟨g,cap,cur,hv,hg,hh,hc,hm,hs,ht⟩⟩:=h
 ·cases hv;cases ha
 ·cases hv;cases ha
  exact⟨cur,e,hh⟩
theorem ia (A:Option Addr) (n c:Nat) (z:Nat->Int) (w:World) (hn:n<=140737488355328) (hr:au w w.heap.size A n (fun j=>.int .u8 (z j))) :
  Calls Tryz.prog 39 #[.slice A n c] w fun e w'=>∃A2 c2,e=.returned (.slice A2 n c2)/\n<=c2/\au w' w'.heap.size A2 n (fun j=>.int .u8 (z j))/\cj w.heap.size A2/\Below w.heap.size w w'/\∀a,A2=some a->jX w' a.block:=
 (dc A n c z w hn hr).mono fun _ _ ⟨A2,c2,he,hc,ho,hb⟩=>⟨A2,c2,he,hc,(dt ho).2,(dt ho).1,hb,xy ho⟩
structure jc (w:World) (B rb:Nat) (nx:Int) (us:Bool) (W R:Nat->Prop) (pA:Option Addr) (pc:Nat) (lp:List PE) (qA:Option Addr) (qc:Nat) (lq:List WE):Prop where
 blk:ae w rb 30 #[.int .u32 nx,.bool us,.slice pA lp.length pc,.slice qA lq.length qc]
 p:SL w 68 2 pA lp.length pc (lp.flatMap PE.cc)
 q:SL w 44 1 qA lq.length qc (lq.flatMap WE.cc)
 pe:∀e,e∈lp->ci w R e.A e.v.n e.c e.v.z
 qe:∀e,e∈lq->ci w R e.A e.v.n e.c e.v.z
 wg:W rb
 wq:∀a,qA=some a->W a.block
 wp:∀a,pA=some a->W a.block
 dis:∀k,W k->R k->False
 win:∀k,W k->B<=k/\k < w.heap.size
 rin:∀k,R k->B<=k/\k < w.heap.size/\jX w k
section
variable {w w1 w':World} {B rb:Nat} {nx:Int} {us:Bool} {W R R' F:Nat->Prop} {qA qA':Option Addr} {qc qc':Nat} {lq lq':List WE} {pA pA':Option Addr} {pc pc':Nat} {lp lp':List PE}
theorem jc.keepF (h:jc w B rb nx us W R pA pc lp qA qc lq) (hk:aa F w w') (hF:∀k,F k->¬W k/\¬R k):jc w' B rb nx us W R pA pc lp qA qc lq:=
 ⟨hk.blk h.blk (fun hf=>(hF _ hf).1 h.wg),h.p.keepF hk (fun a e hf=>(hF _ hf).1 (h.wp a e)),h.q.keepF hk (fun a e hf=>(hF _ hf).1 (h.wq a e)),
  fun e he=>(h.pe e he).keep hk (fun k hf=>(hF k hf).2),fun e he=>(h.qe e he).keep hk (fun k hf=>(hF k hf).2),h.wg,h.wq,h.wp,h.dis,
  fun k hk'=>⟨(h.win k hk').1,bg (h.win k hk').2 hk.size⟩,fun k hk'=>⟨(h.rin k hk').1,bg (h.rin k hk').2.1 hk.size,(h.rin k hk').2.2.keepF hk (fun hf=>(hF k hf).2 hk')⟩⟩
theorem jc.below (h:jc w B rb nx us W R pA pc lp qA qc lq) (hb:Below w.heap.size w w'):jc w' B rb nx us W R pA pc lp qA qc lq:=
 h.keepF (F:=fun _=>False) (aa.of_below hb) (fun _ hf=>hf.elim)
theorem jc.gq (h:jc w B rb nx us W R pA pc lp qA qc lq) (a:Addr) (ha:qA=some a):rb ≠ a.block:=by
 obtain⟨cur,hc⟩:=h.q.obj ha
 exact cu h.blk hc (by decide)
theorem jc.gp (h:jc w B rb nx us W R pA pc lp qA qc lq) (a:Addr) (ha:pA=some a):rb ≠ a.block:=by
 obtain⟨cur,hc⟩:=h.p.obj ha
 exact cu h.blk hc (by decide)
theorem jc.qp (h:jc w B rb nx us W R pA pc lp qA qc lq) (a b:Addr) (ha:qA=some a) (hb:pA=some b):a.block ≠ b.block:=by
 obtain⟨cur,hc⟩:=h.q.obj ha;obtain⟨cur',hc'⟩:=h.p.obj hb
 exact cu hc hc' (by decide)
theorem jc.moreR (h:jc w B rb nx us W R pA pc lp qA qc lq) (hR:∀k,R k->R' k) (hd:∀k,W k->R' k->False) (hr:∀k,R' k->B<=k/\k < w.heap.size/\jX w k):jc w B rb nx us W R' pA pc lp qA qc lq:=
 ⟨h.blk,h.p,h.q,fun e he=>(h.pe e he).mono hR,fun e he=>(h.qe e he).mono hR,h.wg,h.wq,h.wp,hd,h.win,hr⟩
theorem jc.setP (h:jc w B rb nx us W R pA pc lp qA qc lq) (hk:aa (fun k=>∃a,pA=some a/\k=a.block) w w1) (hn:∀a,pA'=some a->(∃a',pA=some a'/\a.block=a'.block)\/w.heap.size<=a.block) (hs:SL w1 68 2 pA' lp'.length pc' (lp'.flatMap PE.cc))
  (he:∀e,e∈lp'->ci w1 R e.A e.v.n e.c e.v.z) :
  jc (w1.setCell ⟨rb,2,none⟩ (.slice pA' lp'.length pc')) B rb nx us (fun k=>W k\/∃a,pA'=some a/\k=a.block) R pA' pc' lp' qA qc lq:=by
 have hg:aa (fun k=>k=rb) w1 (w1.setCell ⟨rb,2,none⟩ (.slice pA' lp'.length pc')):=(aa.refl (F:=fun k=>k=rb)).setCell (p:=⟨rb,2,none⟩) rfl _;have hgl:=h.blk.lt;have hgB:=h.win _ h.wg;have hg1:ae w1 rb _ _:=hk.blk h.blk (fun⟨a,ha,e⟩=>h.gp a ha e);have hgx:∀a,pA'=some a->¬a.block=rb:=fun a ha e=>by
  rcases hn a ha with ⟨a',ha',e'⟩ | hge
  ·exact h.gp a' ha' (by omega)
  ·omega
 have hs1:∀a,qA=some a->¬∃b,pA=some b/\a.block=b.block:=fun a ha ⟨b,hb,e⟩=>h.qp a b ha hb e;have hsz:w.heap.size<=w1.heap.size:=hk.size;have pk:∀{A:Option Addr} {n c:Nat} {z:Nat->Int},ci w R A n c z->ci w1 R A n c z:=fun hp=>hp.keep hk (fun k ⟨a,ha,e⟩ hr=>h.dis k (by rw[e];exact h.wp a ha) hr);have pg:∀{A:Option Addr} {n c:Nat} {z:Nat->Int},ci w1 R A n c z->ci (w1.setCell ⟨rb,2,none⟩ (.slice pA' lp'.length pc')) R A n c z:=fun hp=>hp.keep hg (fun k e hr=>h.dis k (by rw[e];exact h.wg) hr);refine⟨?_,hs.keepF hg hgx,(h.q.keepF hk hs1).keepF hg (fun a e h2=>h.gq a e h2.symm),
  fun e he2=>pg (he e he2),fun e he2=>pg (pk (h.qe e he2)),.inl h.wg,
  fun a e=>.inl (h.wq a e),fun a e=>.inr ⟨a,e,rfl⟩,
  fun k hw hr=>?_,fun k hw=>?_,fun k hr=>⟨(h.rin k hr).1,bg (bg (h.rin k hr).2.1 hsz) hg.size,((h.rin k hr).2.2.keepF hk (fun⟨a,ha,e⟩=>h.dis k (by rw[e];first | exact h.wp a ha | exact h.wq a ha) hr)).keepF hg (fun e=>h.dis k (by rw[e];exact h.wg) hr)⟩⟩
 ·exact hg1.set_ 2 (.slice pA' lp'.length pc')
 ·rcases hw with hw | ⟨a,ha,rfl⟩
  ·exact h.dis k hw hr
  ·rcases hn a ha with ⟨a',ha',e'⟩ | hge
   ·exact h.dis _ (by rw[e'];exact h.wp a' ha') hr
   ·have:=(h.rin _ hr).2.1;omega
 ·rcases hw with hw | ⟨a,ha,rfl⟩
  ·exact⟨(h.win k hw).1,bg (bg (h.win k hw).2 hsz) hg.size⟩
  ·refine⟨?_,bg (hs.lt ha) hg.size⟩;rcases hn a ha with ⟨a',ha',e'⟩ | hge
   ·rw[e'];exact(h.win _ (h.wp a' ha')).1
   ·omega
theorem jc.setQ (h:jc w B rb nx us W R pA pc lp qA qc lq) (hk:aa (fun k=>∃a,qA=some a/\k=a.block) w w1) (hn:∀a,qA'=some a->(∃a',qA=some a'/\a.block=a'.block)\/w.heap.size<=a.block) (hs:SL w1 44 1 qA' lq'.length qc' (lq'.flatMap WE.cc))
  (he:∀e,e∈lq'->ci w1 R e.A e.v.n e.c e.v.z) :
  jc (w1.setCell ⟨rb,3,none⟩ (.slice qA' lq'.length qc')) B rb nx us (fun k=>W k\/∃a,qA'=some a/\k=a.block) R pA pc lp qA' qc' lq':=by
 have hg:aa (fun k=>k=rb) w1 (w1.setCell ⟨rb,3,none⟩ (.slice qA' lq'.length qc')):=(aa.refl (F:=fun k=>k=rb)).setCell (p:=⟨rb,3,none⟩) rfl _;have hgl:=h.blk.lt;have hgB:=h.win _ h.wg;have hg1:ae w1 rb _ _:=hk.blk h.blk (fun⟨a,ha,e⟩=>h.gq a ha e);have hgx:∀a,qA'=some a->¬a.block=rb:=fun a ha e=>by
  rcases hn a ha with ⟨a',ha',e'⟩ | hge
  ·exact h.gq a' ha' (by omega)
  ·omega
 have hs1:∀a,pA=some a->¬∃b,qA=some b/\a.block=b.block:=fun a ha ⟨b,hb,e⟩=>h.qp b a hb ha e.symm;have hsz:w.heap.size<=w1.heap.size:=hk.size;have pk:∀{A:Option Addr} {n c:Nat} {z:Nat->Int},ci w R A n c z->ci w1 R A n c z:=fun hp=>hp.keep hk (fun k ⟨a,ha,e⟩ hr=>h.dis k (by rw[e];exact h.wq a ha) hr);have pg:∀{A:Option Addr} {n c:Nat} {z:Nat->Int},ci w1 R A n c z->ci (w1.setCell ⟨rb,3,none⟩ (.slice qA' lq'.length qc')) R A n c z:=fun hp=>hp.keep hg (fun k e hr=>h.dis k (by rw[e];exact h.wg) hr);refine⟨?_,(h.p.keepF hk hs1).keepF hg (fun a e h2=>h.gp a e h2.symm),hs.keepF hg hgx,
  fun e he2=>pg (pk (h.pe e he2)),fun e he2=>pg (he e he2),.inl h.wg,
  fun a e=>.inr ⟨a,e,rfl⟩,fun a e=>.inl (h.wp a e),
  fun k hw hr=>?_,fun k hw=>?_,fun k hr=>⟨(h.rin k hr).1,bg (bg (h.rin k hr).2.1 hsz) hg.size,((h.rin k hr).2.2.keepF hk (fun⟨a,ha,e⟩=>h.dis k (by rw[e];first | exact h.wp a ha | exact h.wq a ha) hr)).keepF hg (fun e=>h.dis k (by rw[e];exact h.wg) hr)⟩⟩
 ·exact hg1.set_ 3 (.slice qA' lq'.length qc')
 ·rcases hw with hw | ⟨a,ha,rfl⟩
  ·exact h.dis k hw hr
  ·rcases hn a ha with ⟨a',ha',e'⟩ | hge
   ·exact h.dis _ (by rw[e'];exact h.wq a' ha') hr
   ·have:=(h.rin _ hr).2.1;omega
 ·rcases hw with hw | ⟨a,ha,rfl⟩
  ·exact⟨(h.win k hw).1,bg (bg (h.win k hw).2 hsz) hg.size⟩
  ·refine⟨?_,bg (hs.lt ha) hg.size⟩;rcases hn a ha with ⟨a',ha',e'⟩ | hge
   ·rw[e'];exact(h.win _ (h.wq a' ha')).1
   ·omega
end
structure yC (w:World) (B:Nat) (P:List PV) (Q:List QV) (pA:Option Addr) (pc:Nat) (lp:List PE) (qA:Option Addr) (qc:Nat) (lq:List WE):Prop where
 pv:lp.map (·.v)=P
 qv:lq.map (·.v)=Q
 p:SL w 68 2 pA lp.length pc (lp.flatMap PE.cc)
 q:SL w 44 1 qA lq.length qc (lq.flatMap WE.cc)
 pe:∀e,e∈lp->ci w (fun k=>B<=k) e.A e.v.n e.c e.v.z
 qe:∀e,e∈lq->ci w (fun k=>B<=k) e.A e.v.n e.c e.v.z
 pB:∀a,pA=some a->B<=a.block
 qB:∀a,qA=some a->B<=a.block
 pu:∀e,e∈lp->∀a,e.A=some a->jX w a.block
 qu:∀e,e∈lq->∀a,e.A=some a->jX w a.block
 ps:∀e,e∈lp->∀a a',e.A=some a->(pA=some a'\/qA=some a')->a.block ≠ a'.block
 qs:∀e,e∈lq->∀a a',e.A=some a->(pA=some a'\/qA=some a')->a.block ≠ a'.block
attribute [local go_sem ↓] Go.wp_at_zero Go.wp_at_succ
theorem jW (g:Nat) (s:TS) (W0 R0:Nat->Prop) (w:World) (h:dK w g s W0 R0) (hn:s.P.length<=1000000/\s.Q.length<=1000000) :
  Calls Tryz.prog 15 #[.pointer (some ⟨g,0,none⟩)] w fun e w'=>∃pA pc lp qA qc lq,e=.returned (.agg #[.int .u32 (s.next % 4294967296),.bool (decide (s.next=4294967296)),.slice pA lp.length pc,.slice qA lq.length qc])/\yC w' w.heap.size s.P s.Q pA pc lp qA qc lq/\Below w.heap.size w w':=by
 have HM:=zh (fun(W:World) (hb:Below w.heap.size w W)=>j5 g s W0 R0 W (h.below hb));obtain⟨qA0,qc0,lq0,pA0,pc0,lp0,ub,cb,hT⟩:=h;have HT:=zh hT;obtain⟨nx,hnx⟩:=af s.next
 have n0:(0:Int)<=nx:=by rw[hnx];exact hT.next0.1
 have n1:nx<=4294967296:=by rw[hnx];exact hT.next0.2
 have HNX:=zh hnx;rw[<-hnx];obtain⟨m,hm⟩:=af lp0.length
 obtain⟨mq,hmq⟩:=af lq0.length
 have HMM:=zh hm;have HMQ:=zh hmq;have HM6:Hid (m<=1000000):=zh (by have:=congrArg List.length hT.pv;simp at this;omega);have HQ6:Hid (mq<=1000000):=zh (by have:=congrArg List.length hT.qv;simp at this;omega);have hm':(m:Int)<=9223372036854775807:=by have:=HM6.out;omega
 have hmq':(mq:Int)<=9223372036854775807:=by have:=HQ6.out;omega
 have hgl:=hT.blk.lt;obtain⟨Bn,hBn⟩:=af w.heap.size
 have HBN:=zh hBn;clear hT hn hnx hm hmq;go_enter Tryz.func15,Tryz.ntmps15;go_upto_region 1 with (fail)
 refine ag (fun W=>ae W w.heap.size 30 #[.int .u32 0,.bool false,.slice none 0 0,.slice none 0 0]/\Below w.heap.size w W) ⟨ae.new _ _ _,((Below.refl _ w).alloc ao _)⟩ ?_;rintro W1 ⟨b1,b2⟩;have B1:=zh b1;have B2:=zh b2;clear b1 b2;rw[<-hBn]at hgl B1 B2 HM ⊢;clear hBn;go_upto_region 3 with (first
  | (go_at_call 49;refine(HM.out _ B2.out).mono ?_;rintro e w2 ⟨rfl,rfl⟩))
 obtain⟨w2,hw2⟩:=af W1.drew
 have xn0:W1.cell? ⟨g,41,none⟩=some (.int .u64 nx):=by rw[HNX.out];exact(HT.out.below (B2.out.mono (by rw[HBN.out];exact Nat.le_refl _))).cnext
 have X1:=zh xn0;have hgr:g ≠ Bn:=by omega
 have HS:=zh (show ∀W',aa (fun j=>j=Bn) W1 W'->W'.cell? ⟨g,41,none⟩=some (.int .u64 nx)from fun W' hW=>(hW.cell (p:=⟨g,41,none⟩) (by show g < _;have:=B1.out.lt;omega) hgr).trans X1.out);have hB0:ae w2 Bn 30 #[.int .u32 0,.bool false,.slice none 0 0,.slice none 0 0]:=by rw[hw2];exact B1.out.drew
 have hbw:Below Bn w w2:=by rw[hw2];exact B2.out.drew
 refine wp_region_held_drew (S:=fun w'=>aa (fun j=>j=Bn) W1 w') (by kernel_rfl) ((aa.refl (w:=W1)).drew) (fun hHeld=>?_);rw[<-hw2];rw[<-hw2]at hHeld;clear hw2 xn0;refine dF (i:=0) (x:=some 10) (v:=.pointer (some ⟨g,0,none⟩)) rfl ?_;refine dF (i:=1) (x:=some 11) (v:=.pointer (some ⟨g,0,none⟩)) rfl ?_;refine bF (i:=2) (x:=some 12) (v:=.pointer (some ⟨g,41,none⟩)) rfl ?_;refine ed (i:=3) (x:=some 13) (v:=.int .u64 nx) rfl (.inl ⟨by rfl,fun W hW=>(by have u:=HS.out W hW;go_simp)⟩) ?_;refine ed (i:=4) (x:=some 14) (v:=.int .u32 (nx % 4294967296)) rfl (.inl ⟨by rfl,fun W hW=>(by go_simp;rfl)⟩) ?_;refine dF (i:=5) (x:=some 15) (v:=.pointer (some ⟨g,0,none⟩)) rfl ?_;refine dF (i:=6) (x:=some 16) (v:=.pointer (some ⟨g,0,none⟩)) rfl ?_;refine bF (i:=7) (x:=some 17) (v:=.pointer (some ⟨g,41,none⟩)) rfl ?_;refine ed (i:=8) (x:=some 18) (v:=.int .u64 nx) rfl (.inl ⟨by rfl,fun W hW=>(by have u:=HS.out W hW;go_simp)⟩) ?_;refine ed (i:=9) (x:=some 19) (v:=.bool (decide (nx=4294967296))) rfl (.inl ⟨by rfl,fun W hW=>(by go_simp;rfl)⟩) ?_;refine bF (i:=10) (x:=some 20) (v:=.pointer (some ⟨Bn,0,none⟩)) rfl ?_;refine bc (i:=11) (x:=none) rfl fun K hK=>?_;have hc0:=hB0.cell 0;have hf0:=hB0.frozen 0;simp at hc0;go_simp;have hB1:=hB0.set_ 0 (.int .u32 (nx % 4294967296));have hS1:aa (fun j=>j=Bn) W1 (w2.setCell ⟨Bn,0,none⟩ (.int .u32 (nx % 4294967296))):=hHeld.setCell (p:=⟨Bn,0,none⟩) rfl _;have hbw1:Below Bn w (w2.setCell ⟨Bn,0,none⟩ (.int .u32 (nx % 4294967296))):=hbw.setCell (p:=⟨Bn,0,none⟩) ao _;refine hK.out _ _ hS1 (fun hHeld=>?_);clear hK K hS1 hc0 hf0 hB0 hbw
 try simp only[Act.put,qa,qb,qc]
 generalize w2.setCell ⟨Bn,0,none⟩ (.int .u32 (nx % 4294967296))=w3 at *;refine bF (i:=12) (x:=some 21) (v:=.pointer (some ⟨Bn,1,none⟩)) rfl ?_;refine bc (i:=13) (x:=none) rfl fun K hK=>?_;have hc0:=hB1.cell 1;have hf0:=hB1.frozen 1;simp at hc0;go_simp;have hB2:=hB1.set_ 1 (.bool (decide (nx=4294967296)));have hS1:aa (fun j=>j=Bn) W1 (w3.setCell ⟨Bn,1,none⟩ (.bool (decide (nx=4294967296)))):=hHeld.setCell (p:=⟨Bn,1,none⟩) rfl _;have hbw2:Below Bn w (w3.setCell ⟨Bn,1,none⟩ (.bool (decide (nx=4294967296)))):=hbw1.setCell (p:=⟨Bn,1,none⟩) ao _;refine hK.out _ _ hS1 (fun hHeld=>?_);clear hK K hS1 hc0 hf0 hB1 hbw1 hHeld;generalize w3.setCell ⟨Bn,1,none⟩ (.bool (decide (nx=4294967296)))=w4 at *
 try simp only[Act.put]
 refine wpAnyH_done (by kernel_rfl) ?_ _;obtain⟨us,hus⟩:=af (decide (nx=4294967296))
 obtain⟨ny,hny⟩:=af (nx % 4294967296)
 rw[<-hus,<-hny]at hB2 ⊢;have hF0:jc w4 Bn Bn ny us (fun k=>k=Bn) (fun _=>False) none 0 [] none 0 []:=⟨by simpa using hB2,SL.nil _ _ _,SL.nil _ _ _,fun e he=>(by cases he),fun e he=>(by cases he),rfl,fun a e=>(by cases e),fun a e=>(by cases e),fun k _ hr=>hr,fun k hk=>⟨by omega,by rw[hk];exact hB2.lt⟩,fun k hr=>hr.elim⟩
 have F0:=zh hF0;have B4:=zh hbw2;have T4:=zh (HT.out.below (hbw2.mono (by rw[HBN.out];exact Nat.le_refl _)));have xp:=T4.out.cp;rw[<-HMM.out]at xp;have HNY:=zh hny;have HUS:=zh hus;clear hF0 hbw2 hB2 hus hny X1 HS n0 n1;go_wp2;go_loopw [27] (fun v wr=>∃(k:Nat) (W R:Nat->Prop) (pA:Option Addr) (pc:Nat) (lp:List PE),k<=m/\v=.int .i64 k/\jc wr Bn Bn ny us W R pA pc lp none 0 []/\lp.map (·.v)=(lp0.take k).map (·.v)/\Below Bn w wr) (fun v _=>m-(intOf v).toNat)
 case atStart=>exact⟨0,_,_,_,_,_,by omega,rfl,F0.out,by simp,B4.out⟩
 case round=>
  clear xp F0 B4 T4;obtain⟨k,W,R,pA,pc,lp,hk,rfl,hF,hv,hb⟩:=hrel;have FF:=zh hF;have BB:=zh hb;have VV:=zh hv;have hbs:Bn<=wr.heap.size:=by have:=hb.size;have:=HBN.out;omega
  have TT:=zh (HT.out.below (hb.mono (by rw[HBN.out];exact Nat.le_refl _)));clear hF hv hb;by_cases hlt:k < m
  ·obtain⟨e0,he0⟩:∃e0,lp0[k]? = some e0:=⟨lp0[k]'(by have:=HMM.out;omega),by simp[HMM.out ▸ hlt]⟩
   obtain⟨b,o,hpA,hlb,c0,c1,c2⟩:=TT.out.pcell he0;have hpk:=TT.out.pe e0 (List.mem_of_getElem? he0);have hpr:=TT.out.pr e0.v (by rw[<-TT.out.pv];exact List.mem_map_of_mem (List.mem_of_getElem? he0));have HE:=zh he0;obtain⟨⟨x,n,z,rep⟩,A,c⟩:=e0;dsimp only at c0 c1 c2 hpk hpr;obtain⟨r0,r1⟩:=hpr;have HPK:=zh hpk;have k0:(0:Int)<=(k:Int):=by omega
   have k1:(k:Int) < (m:Int):=by omega
   subst hpA;clear hpk he0;go_upto_region 7 with (fail)
   refine ag (fun W'=>ae W' wr.heap.size 94 #[.int .u32 x,.slice A n c,.bool rep]/\Below wr.heap.size wr W') ⟨ae.new _ _ _,(Below.refl _ wr).alloc ao _⟩ ?_;rintro W6 ⟨b6,b7⟩;obtain⟨xb,hxb⟩:=af wr.heap.size
   have hxg:xb ≠ Bn:=by have:=FF.out.blk.lt;omega
   have hxp:∀a,pA=some a->xb ≠ a.block:=fun a e=>by have:=FF.out.p.lt e;omega
   have F6:=zh (FF.out.below b7);have B6:=zh (show Below Bn w W6 from BB.out.trans (b7.mono hbs));have hs6:Bn<=W6.heap.size:=ba hbs b7.size;have R6:=zh (show au W6 W6.heap.size A n (fun j=>.int .u8 (z j))from HPK.out.row.next b7);have HBY:=zh HPK.out.byte;have hp1:=HPK.out.pos;have hp9:=HPK.out.max;rw[<-hxb]at b6 ⊢;have X6:=zh b6;clear b6 b7 hxb c0 c1 c2;have HS:=zh (show ∀W',aa (fun j=>j=Bn\/∃a,pA=some a/\j=a.block) W6 W'->W'.cell? ⟨xb,0,none⟩=some (.int .u32 x)/\W'.cell? ⟨xb,1,none⟩=some (.slice A n c)from fun W' hW=>by
    have:=hW.blk X6.out (fun hf=>by rcases hf with h | ⟨a,ha,h⟩;exact hxg h;exact hxp a ha h)
    exact⟨this.cell 0,this.cell 1⟩)
   obtain⟨w0,hw0⟩:=af W6.drew
   have T0:jc w0 Bn Bn ny us W R pA pc lp none 0 []:=by rw[hw0];exact F6.out.below (Below.refl _ _).drew
   have hb0:Below W6.heap.size W6 w0:=by rw[hw0];exact(Below.refl _ _).drew
   obtain⟨ic,hic,hicz,hics,hicb⟩:=qC;refine wp_region_held_drew (S:=fun w'=>aa (fun j=>j=Bn\/∃a,pA=some a/\j=a.block) W6 w') (by kernel_rfl) ((aa.refl (w:=W6)).drew) (fun hHeld=>?_);rw[<-hw0];rw[<-hw0]at hHeld;clear hw0;obtain⟨pl,hpl⟩:=af lp.length
   have HPL2:=zh hpl;have HPL:Hid (pl=k):=zh (by have:=congrArg List.length VV.out;simp at this;have:=HMM.out;omega);have HTK:=zh (show(lp0.take (k+1)).map (·.v)=(lp0.take k).map (·.v)++[(⟨x,n,z,rep⟩:PV)]from by rw[List.take_add_one,HE.out,List.map_append];rfl);have hbF:Bn<=w0.heap.size:=ba hs6 hb0.size;clear hpl;refine bF (i:=0) (x:=some 31) (v:=.pointer (some ⟨Bn,2,none⟩)) rfl ?_;refine bF (i:=2) (x:=some 33) (v:=.pointer (some ⟨xb,0,none⟩)) rfl ?_;refine bF (i:=3) (x:=some 34) (v:=.pointer (some ⟨xb,0,none⟩)) rfl ?_;refine ed (i:=4) (x:=some 35) (v:=.int .u32 x) rfl (.inl ⟨by rfl,fun W hW=>(by obtain⟨u0,u1⟩:=HS.out W hW;go_simp)⟩) ?_;refine bF (i:=5) (x:=some 36) (v:=.pointer (some ⟨xb,0,none⟩)) rfl ?_;refine bF (i:=6) (x:=some 37) (v:=.pointer (some ⟨xb,1,none⟩)) rfl ?_;refine ed (i:=7) (x:=some 38) (v:=.slice A n c) rfl (.inl ⟨by rfl,fun W hW=>(by obtain⟨u0,u1⟩:=HS.out W hW;go_simp)⟩) ?_;refine wpAnyH_ready (rs:=[1,8]) (by kernel_rfl) (by simp) ?_;refine AllReadyH.cons (o:=⟨some 32,_,_,_,_,_⟩) rfl (fun K hK=>?_) (AllReadyH.cons (o:=⟨some 39,_,_,_,_,_⟩) rfl (fun K hK=>?_) AllReadyH.nil)
   focus
    rw[if_pos (by rfl)];have h43:=T0.blk.cell 2;simp at h43;rw[<-HPL2.out]at h43;go_simp;refine hK.out _ _ hHeld (fun hHeld=>?_);clear hK K h43
    try simp only[Act.put,qa,qb,qc]
    refine bc (i:=8) (x:=some 39) rfl fun K hK=>?_;go_simp;refine(ia A n c z w0 (by omega) (R6.out.next hb0)).mono ?_;rintro e w1' ⟨A2,c2',rfl,hc2,hR2,hF2,hbk,hUn⟩;dsimp only;have hFl:∀a,A2=some a->w0.heap.size<=a.block:=hF2;have hFr:∀a,A2=some a->a.block < w1'.heap.size:=fun a e=>db hR2 hp1 e;have hwl1:∀j,W j->j < w0.heap.size:=fun j hj=>(T0.win j hj).2;have hFB:∀a,A2=some a->Bn<=a.block:=fun a e=>by have:=hFl a e;have:=hb0.size;omega
    have T1:=T0.below hbk;have hb1:Below W6.heap.size W6 w1':=hb0.trans (hbk.mono hb0.size);have hW2:∀j,W j->∀a,A2=some a->j ≠ a.block:=fun j hj a e=>by have:=hFl a e;have:=hwl1 j hj;omega
    refine hK.out _ _ (hHeld.more hbk) (fun hHeld=>?_);clear hK K hbk hF2
    try simp only[Act.put,qa,qb,qc]
    refine bF (i:=9) (x:=some 40) (v:=.agg #[.int .u32 x,.slice A2 n c2']) rfl ?_;refine bc (i:=10) (x:=some 41) rfl fun K hK=>?_;go_simp;obtain⟨w2',hv⟩:∃X,X=w1'.alloc (.cells #[.int .u32 x,.slice A2 n c2'] 68):=⟨_,rfl⟩
    obtain⟨nb,hnb⟩:=af w1'.heap.size
    have hbk:Below w1'.heap.size w1' w2':=by rw[hv];exact bM _
    have hNB:ae w2' nb 68 #[.int .u32 x,.slice A2 n c2']:=by rw[hv,hnb];exact ae.new _ _ _
    have T2:=T1.below hbk;have hb2:Below W6.heap.size W6 w2':=hb1.trans (hbk.mono hb1.size);replace hR2:=hR2.next hbk;replace hUn:∀a,A2=some a->jX w2' a.block:=fun a e=>(hUn a e).below hbk;replace hFr:∀a,A2=some a->a.block < w2'.heap.size:=fun a e=>bg (hFr a e) hbk.size;rw[<-hv,<-hnb];refine hK.out _ _ (hHeld.more hbk) (fun hHeld=>?_);clear hK K hbk hv hnb
   rotate_left
   focus
    rw[if_pos (by rfl)];go_simp;refine(ia A n c z w0 (by omega) (R6.out.next hb0)).mono ?_;rintro e w1' ⟨A2,c2',rfl,hc2,hR2,hF2,hbk,hUn⟩;dsimp only;have hFl:∀a,A2=some a->w0.heap.size<=a.block:=hF2;have hFr:∀a,A2=some a->a.block < w1'.heap.size:=fun a e=>db hR2 hp1 e;have hwl1:∀j,W j->j < w0.heap.size:=fun j hj=>(T0.win j hj).2;have hFB:∀a,A2=some a->Bn<=a.block:=fun a e=>by have:=hFl a e;have:=hb0.size;omega
    have T1:=T0.below hbk;have hb1:Below W6.heap.size W6 w1':=hb0.trans (hbk.mono hb0.size);have hW2:∀j,W j->∀a,A2=some a->j ≠ a.block:=fun j hj a e=>by have:=hFl a e;have:=hwl1 j hj;omega
    refine hK.out _ _ (hHeld.more hbk) (fun hHeld=>?_);clear hK K hbk hF2
    try simp only[Act.put,qa,qb,qc]
    refine bF (i:=9) (x:=some 40) (v:=.agg #[.int .u32 x,.slice A2 n c2']) rfl ?_;refine wpAnyH_ready (rs:=[1,10]) (by kernel_rfl) (by simp) ?_;refine AllReadyH.cons (o:=⟨some 32,_,_,_,_,_⟩) rfl (fun K hK=>?_) (AllReadyH.cons (o:=⟨some 41,_,_,_,_,_⟩) rfl (fun K hK=>?_) AllReadyH.nil)
    focus
     rw[if_pos (by rfl)];have h43:=T1.blk.cell 2;simp at h43;rw[<-HPL2.out]at h43;go_simp;refine hK.out _ _ hHeld (fun hHeld=>?_);clear hK K h43
     try simp only[Act.put,qa,qb,qc]
     refine bc (i:=10) (x:=some 41) rfl fun K hK=>?_;go_simp;obtain⟨w2',hv⟩:∃X,X=w1'.alloc (.cells #[.int .u32 x,.slice A2 n c2'] 68):=⟨_,rfl⟩
     obtain⟨nb,hnb⟩:=af w1'.heap.size
     have hbk:Below w1'.heap.size w1' w2':=by rw[hv];exact bM _
     have hNB:ae w2' nb 68 #[.int .u32 x,.slice A2 n c2']:=by rw[hv,hnb];exact ae.new _ _ _
     have T2:=T1.below hbk;have hb2:Below W6.heap.size W6 w2':=hb1.trans (hbk.mono hb1.size);replace hR2:=hR2.next hbk;replace hUn:∀a,A2=some a->jX w2' a.block:=fun a e=>(hUn a e).below hbk;replace hFr:∀a,A2=some a->a.block < w2'.heap.size:=fun a e=>bg (hFr a e) hbk.size;rw[<-hv,<-hnb];refine hK.out _ _ (hHeld.more hbk) (fun hHeld=>?_);clear hK K hbk hv hnb
    rotate_left
    focus
     rw[if_pos (by rfl)];go_simp;obtain⟨w2',hv⟩:∃X,X=w1'.alloc (.cells #[.int .u32 x,.slice A2 n c2'] 68):=⟨_,rfl⟩
     obtain⟨nb,hnb⟩:=af w1'.heap.size
     have hbk:Below w1'.heap.size w1' w2':=by rw[hv];exact bM _
     have hNB:ae w2' nb 68 #[.int .u32 x,.slice A2 n c2']:=by rw[hv,hnb];exact ae.new _ _ _
     have T2:=T1.below hbk;have hb2:Below W6.heap.size W6 w2':=hb1.trans (hbk.mono hb1.size);replace hR2:=hR2.next hbk;replace hUn:∀a,A2=some a->jX w2' a.block:=fun a e=>(hUn a e).below hbk;replace hFr:∀a,A2=some a->a.block < w2'.heap.size:=fun a e=>bg (hFr a e) hbk.size;rw[<-hv,<-hnb];refine hK.out _ _ (hHeld.more hbk) (fun hHeld=>?_);clear hK K hbk hv hnb
     try simp only[Act.put,qa,qb,qc]
     refine bc (i:=1) (x:=some 32) rfl fun K hK=>?_;have h43:=T2.blk.cell 2;simp at h43;rw[<-HPL2.out]at h43;go_simp;refine hK.out _ _ hHeld (fun hHeld=>?_);clear hK K h43
   all_goals
    try simp only[Act.put,qa,qb,qc]
    refine bc (i:=11) (x:=some 42) rfl fun K hK=>?_;have hSL:=T2.p;rw[<-HPL2.out]at hSL;refine bB _ _ _ _ rfl w2' 68 ic (.agg #[.int .u32 0,.slice none 0 0]) 2 32 Tryz.underlying27 hic hicz hics hicb rfl pA pl pc (lp.flatMap PE.cc) rfl hSL _ rfl 1 [.int .u32 x,.slice A2 n c2'] (Src.ofSlice _ Tryz.underlying27 ⟨nb,0,none⟩ 1 1 _ rfl (fun j u hu=>by
      have hj:j < 2:=(List.getElem?_eq_some_iff.1 hu).1;rw[Addr.add_lit,Nat.zero_add,hNB.cell j];simpa using hu) (by simp[Value.oneCell'])) (by decide) (by unfold maxLen;have:=HPL.out;have:=HM6.out;have:=HQ6.out;omega) (by have:=HPL.out;have:=HM6.out;have:=HQ6.out;omega) ?_
    intro A9 c9 wA hSL9 hK9 hA9;dsimp only;have hA9n:∀a,A9=some a->(∃a',pA=some a'/\a.block=a'.block)\/w2'.heap.size<=a.block:=hA9;refine hK.out _ _ (hHeld.trans hK9 (fun j _ hj=>.inr hj)) (fun hHeld=>?_);clear hK K
    try simp only[Act.put,qa,qb,qc]
    refine bF (i:=12) (x:=some 43) (v:=.pointer (some ⟨Bn,2,none⟩)) rfl ?_;refine bc (i:=13) (x:=none) rfl fun K hK=>?_;have hg9:ae wA Bn 30 _:=hK9.blk T2.blk (fun⟨a,ha,e⟩=>T2.gp a ha e);have hc43:=hg9.cell 2;have hf43:=hg9.frozen 2;simp at hc43;have T9:=T2.moreR (R':=fun j=>R j\/∃a,A2=some a/\j=a.block) (fun j hj=>.inl hj) (fun j hw hr=>by rcases hr with hr | ⟨a,ha,e⟩;exact T2.dis j hw hr;exact hW2 j hw a ha e) (fun j hr=>by rcases hr with hr | ⟨a,ha,e⟩;exact T2.rin j hr;(rw[e];exact⟨hFB a ha,hFr a ha,hUn a ha⟩));have hpk9:∀e:PE,e∈lp++[(⟨⟨x,n,z,rep⟩,A2,c2'⟩:PE)]->ci wA (fun j=>R j\/∃a,A2=some a/\j=a.block) e.A e.v.n e.c e.v.z:=fun e he=>by
     have hx:ci w2' (fun j=>R j\/∃a,A2=some a/\j=a.block) e.A e.v.n e.c e.v.z:=by
      rcases List.mem_append.1 he with he | he
      ·exact T9.pe e he
      ·have:e=(⟨⟨x,n,z,rep⟩,A2,c2'⟩:PE):=by simpa using he
       rw[this]
       exact ci.of_clone hp1 hp9 hc2 HBY.out hR2
     exact hx.keep hK9 (fun j ⟨a,ha,e2⟩ hr=>T9.dis j (by rw[e2];exact T9.wp a ha) hr)
    have hlen9:(lp++[(⟨⟨x,n,z,rep⟩,A2,c2'⟩:PE)]).length=pl+1:=by rw[List.length_append,HPL2.out];rfl
    have hSL9':SL wA 68 2 A9 (lp++[(⟨⟨x,n,z,rep⟩,A2,c2'⟩:PE)]).length c9 ((lp++[(⟨⟨x,n,z,rep⟩,A2,c2'⟩:PE)]).flatMap PE.cc):=by
     rw[hlen9,List.flatMap_append]
     exact hSL9
    have TF:=T9.setP hK9 hA9n hSL9' hpk9;rw[hlen9]at TF;have hbA:Below Bn w wA:=aa.below ((show Below Bn w W6 from B6.out).trans (hb2.mono hs6)) (hK9.mono (G:=W) (fun j ⟨a,ha,e2⟩=>by rw[e2];exact T2.wp a ha)) (fun j hj=>(T2.win j hj).1) (ba hs6 hb2.size);have HTF:=zh TF;have HBF:=zh (show Below Bn w (wA.setCell ⟨Bn,2,none⟩ (.slice A9 (pl+1) c9))from hbA.setCell (p:=⟨Bn,2,none⟩) ao _);have HVF:=zh (show(lp++[(⟨⟨x,n,z,rep⟩,A2,c2'⟩:PE)]).map (·.v)=(lp0.take (k+1)).map (·.v)from by rw[HTK.out,List.map_append,VV.out];rfl);have hS9:aa (fun j=>j=Bn\/∃a,pA=some a/\j=a.block) W6 (wA.setCell ⟨Bn,2,none⟩ (.slice A9 (pl+1) c9)):=hHeld.setCell (p:=⟨Bn,2,none⟩) (.inl rfl) _;clear TF hSL9 hSL9' hpk9 hK9 hA9 hA9n T9 hg9 hSL hbA;go_simp;refine hK.out _ _ hS9 (fun hHeld=>?_);clear hK K hS9
    try simp only[Act.put]
    refine wpAnyH_done (by kernel_rfl) ?_ _;go_wp2;go_roundw
    case rel=>first | exact⟨k+1,_,_,_,_,_,by omega,by go_num,HTF.out,HVF.out,HBF.out⟩ | ((repeat apply Exists.intro);exact⟨⟨by omega,by go_num,HTF.out,HVF.out,HBF.out⟩,rfl⟩)
    case measure=>simp[intOf];omega
  ·obtain rfl:k=m:=by omega
   have hlv:lp.map (·.v)=s.P:=by rw[VV.out,<-TT.out.pv,HMM.out,List.take_length]
   have HLV:=zh hlv;have xq:=TT.out.cq;rw[<-HMQ.out]at xq;clear hlv;go_wp2;go_loopw [50] (fun v wq=>∃(j:Nat) (W R:Nat->Prop) (qA:Option Addr) (qc:Nat) (lq:List WE),j<=mq/\v=.int .i64 j/\jc wq Bn Bn ny us W R pA pc lp qA qc lq/\lq.map (·.v)=(lq0.take j).map (·.v)/\Below Bn w wq) (fun v _=>mq-(intOf v).toNat)
   case atStart=>exact⟨0,_,_,_,_,_,by omega,rfl,FF.out,by simp,BB.out⟩
   case round=>
    clear xq FF BB TT VV hbs W R;obtain⟨j,W,R,qA,qc,lq,hj,rfl,hF,hv,hb⟩:=hrel;have FF:=zh hF;have BB:=zh hb;have VV:=zh hv;have hbs:Bn<=wr.heap.size:=by have:=hb.size;have:=HBN.out;omega
    have TT:=zh (HT.out.below (hb.mono (by rw[HBN.out];exact Nat.le_refl _)));clear hF hv hb;by_cases hlt:j < mq
    ·obtain⟨e0,he0⟩:∃e0,lq0[j]? = some e0:=⟨lq0[j]'(by have:=HMQ.out;omega),by simp[HMQ.out ▸ hlt]⟩
     obtain⟨b,o,hpA,hlb,c0,c1⟩:=TT.out.qcell he0;have hpk:=TT.out.qe e0 (List.mem_of_getElem? he0);have HE:=zh he0;obtain⟨⟨n,z,at_⟩,A,c⟩:=e0;dsimp only at c0 c1 hpk;have HPK:=zh hpk;have k0:(0:Int)<=(j:Int):=by omega
     have k1:(j:Int) < (mq:Int):=by omega
     subst hpA;clear hpk he0;go_upto_region 12 with (fail)
     refine ag (fun W'=>ae W' wr.heap.size 96 #[.slice A n c,.int .i64 at_]/\Below wr.heap.size wr W') ⟨ae.new _ _ _,(Below.refl _ wr).alloc ao _⟩ ?_;rintro W6 ⟨b6,b7⟩;obtain⟨xb,hxb⟩:=af wr.heap.size
     have hxg:xb ≠ Bn:=by have:=FF.out.blk.lt;omega
     have hxp:∀a,qA=some a->xb ≠ a.block:=fun a e=>by have:=FF.out.q.lt e;omega
     have F6:=zh (FF.out.below b7);have B6:=zh (show Below Bn w W6 from BB.out.trans (b7.mono hbs));have hs6:Bn<=W6.heap.size:=ba hbs b7.size;have R6:=zh (show au W6 W6.heap.size A n (fun j=>.int .u8 (z j))from HPK.out.row.next b7);have HBY:=zh HPK.out.byte;have hp1:=HPK.out.pos;have hp9:=HPK.out.max;rw[<-hxb]at b6 ⊢;have X6:=zh b6;clear b6 b7 hxb c0 c1;have HS:=zh (show ∀W',aa (fun j=>j=Bn\/∃a,qA=some a/\j=a.block) W6 W'->W'.cell? ⟨xb,0,none⟩=some (.slice A n c)from fun W' hW=>by
      have:=hW.blk X6.out (fun hf=>by rcases hf with h | ⟨a,ha,h⟩;exact hxg h;exact hxp a ha h)
      exact this.cell 0)
     obtain⟨w0,hw0⟩:=af W6.drew
     have T0:jc w0 Bn Bn ny us W R pA pc lp qA qc lq:=by rw[hw0];exact F6.out.below (Below.refl _ _).drew
     have hb0:Below W6.heap.size W6 w0:=by rw[hw0];exact(Below.refl _ _).drew
     obtain⟨is,his,hisz,hiss,hisb⟩:=xS;refine wp_region_held_drew (S:=fun w'=>aa (fun j=>j=Bn\/∃a,qA=some a/\j=a.block) W6 w') (by kernel_rfl) ((aa.refl (w:=W6)).drew) (fun hHeld=>?_);rw[<-hw0];rw[<-hw0]at hHeld;clear hw0;obtain⟨pl,hpl⟩:=af lq.length
     have HPL2:=zh hpl;have HPL:Hid (pl=j):=zh (by have:=congrArg List.length VV.out;simp at this;have:=HMQ.out;omega);have HTK:=zh (show(lq0.take (j+1)).map (·.v)=(lq0.take j).map (·.v)++[(⟨n,z,at_⟩:QV)]from by rw[List.take_add_one,HE.out,List.map_append];rfl);have hbF:Bn<=w0.heap.size:=ba hs6 hb0.size;clear hpl;refine bF (i:=0) (x:=some 54) (v:=.pointer (some ⟨Bn,3,none⟩)) rfl ?_;refine bF (i:=2) (x:=some 56) (v:=.pointer (some ⟨xb,0,none⟩)) rfl ?_;refine ed (i:=3) (x:=some 57) (v:=.slice A n c) rfl (.inl ⟨by rfl,fun W hW=>(by have u0:=HS.out W hW;go_simp)⟩) ?_;refine wpAnyH_ready (rs:=[1,4]) (by kernel_rfl) (by simp) ?_;refine AllReadyH.cons (o:=⟨some 55,_,_,_,_,_⟩) rfl (fun K hK=>?_) (AllReadyH.cons (o:=⟨some 58,_,_,_,_,_⟩) rfl (fun K hK=>?_) AllReadyH.nil)
     focus
      rw[if_pos (by rfl)];have h43:=T0.blk.cell 3;simp at h43;rw[<-HPL2.out]at h43;go_simp;refine hK.out _ _ hHeld (fun hHeld=>?_);clear hK K h43
      try simp only[Act.put,qa,qb,qc]
      refine bc (i:=4) (x:=some 58) rfl fun K hK=>?_;go_simp;refine(ia A n c z w0 (by omega) (R6.out.next hb0)).mono ?_;rintro e w1' ⟨A2,c2',rfl,hc2,hR2,hF2,hbk,hUn⟩;dsimp only;have hFl:∀a,A2=some a->w0.heap.size<=a.block:=hF2;have hFr:∀a,A2=some a->a.block < w1'.heap.size:=fun a e=>db hR2 hp1 e;have hwl1:∀j,W j->j < w0.heap.size:=fun j hj=>(T0.win j hj).2;have hFB:∀a,A2=some a->Bn<=a.block:=fun a e=>by have:=hFl a e;have:=hb0.size;omega
      have T1:=T0.below hbk;have hb1:Below W6.heap.size W6 w1':=hb0.trans (hbk.mono hb0.size);have hW2:∀j,W j->∀a,A2=some a->j ≠ a.block:=fun j hj a e=>by have:=hFl a e;have:=hwl1 j hj;omega
      refine hK.out _ _ (hHeld.more hbk) (fun hHeld=>?_);clear hK K hbk hF2
      try simp only[Act.put,qa,qb,qc]
      refine bc (i:=5) (x:=some 59) rfl fun K hK=>?_;go_simp;obtain⟨w2',hv⟩:∃X,X=w1'.alloc (.cells #[.slice A2 n c2'] 44):=⟨_,rfl⟩
      obtain⟨nb,hnb⟩:=af w1'.heap.size
      have hbk:Below w1'.heap.size w1' w2':=by rw[hv];exact bM _
      have hNB:ae w2' nb 44 #[.slice A2 n c2']:=by rw[hv,hnb];exact ae.new _ _ _
      have T2:=T1.below hbk;have hb2:Below W6.heap.size W6 w2':=hb1.trans (hbk.mono hb1.size);replace hR2:=hR2.next hbk;replace hUn:∀a,A2=some a->jX w2' a.block:=fun a e=>(hUn a e).below hbk;replace hFr:∀a,A2=some a->a.block < w2'.heap.size:=fun a e=>bg (hFr a e) hbk.size;rw[<-hv,<-hnb];refine hK.out _ _ (hHeld.more hbk) (fun hHeld=>?_);clear hK K hbk hv hnb
     rotate_left
     focus
      rw[if_pos (by rfl)];go_simp;refine(ia A n c z w0 (by omega) (R6.out.next hb0)).mono ?_;rintro e w1' ⟨A2,c2',rfl,hc2,hR2,hF2,hbk,hUn⟩;dsimp only;have hFl:∀a,A2=some a->w0.heap.size<=a.block:=hF2;have hFr:∀a,A2=some a->a.block < w1'.heap.size:=fun a e=>db hR2 hp1 e;have hwl1:∀j,W j->j < w0.heap.size:=fun j hj=>(T0.win j hj).2;have hFB:∀a,A2=some a->Bn<=a.block:=fun a e=>by have:=hFl a e;have:=hb0.size;omega
      have T1:=T0.below hbk;have hb1:Below W6.heap.size W6 w1':=hb0.trans (hbk.mono hb0.size);have hW2:∀j,W j->∀a,A2=some a->j ≠ a.block:=fun j hj a e=>by have:=hFl a e;have:=hwl1 j hj;omega
      refine hK.out _ _ (hHeld.more hbk) (fun hHeld=>?_);clear hK K hbk hF2
      try simp only[Act.put,qa,qb,qc]
      refine wpAnyH_ready (rs:=[1,5]) (by kernel_rfl) (by simp) ?_;refine AllReadyH.cons (o:=⟨some 55,_,_,_,_,_⟩) rfl (fun K hK=>?_) (AllReadyH.cons (o:=⟨some 59,_,_,_,_,_⟩) rfl (fun K hK=>?_) AllReadyH.nil)
      focus
       rw[if_pos (by rfl)];have h43:=T1.blk.cell 3;simp at h43;rw[<-HPL2.out]at h43;go_simp;refine hK.out _ _ hHeld (fun hHeld=>?_);clear hK K h43
       try simp only[Act.put,qa,qb,qc]
       refine bc (i:=5) (x:=some 59) rfl fun K hK=>?_;go_simp;obtain⟨w2',hv⟩:∃X,X=w1'.alloc (.cells #[.slice A2 n c2'] 44):=⟨_,rfl⟩
       obtain⟨nb,hnb⟩:=af w1'.heap.size
       have hbk:Below w1'.heap.size w1' w2':=by rw[hv];exact bM _
       have hNB:ae w2' nb 44 #[.slice A2 n c2']:=by rw[hv,hnb];exact ae.new _ _ _
       have T2:=T1.below hbk;have hb2:Below W6.heap.size W6 w2':=hb1.trans (hbk.mono hb1.size);replace hR2:=hR2.next hbk;replace hUn:∀a,A2=some a->jX w2' a.block:=fun a e=>(hUn a e).below hbk;replace hFr:∀a,A2=some a->a.block < w2'.heap.size:=fun a e=>bg (hFr a e) hbk.size;rw[<-hv,<-hnb];refine hK.out _ _ (hHeld.more hbk) (fun hHeld=>?_);clear hK K hbk hv hnb
      rotate_left
      focus
       rw[if_pos (by rfl)];go_simp;obtain⟨w2',hv⟩:∃X,X=w1'.alloc (.cells #[.slice A2 n c2'] 44):=⟨_,rfl⟩
       obtain⟨nb,hnb⟩:=af w1'.heap.size
       have hbk:Below w1'.heap.size w1' w2':=by rw[hv];exact bM _
       have hNB:ae w2' nb 44 #[.slice A2 n c2']:=by rw[hv,hnb];exact ae.new _ _ _
       have T2:=T1.below hbk;have hb2:Below W6.heap.size W6 w2':=hb1.trans (hbk.mono hb1.size);replace hR2:=hR2.next hbk;replace hUn:∀a,A2=some a->jX w2' a.block:=fun a e=>(hUn a e).below hbk;replace hFr:∀a,A2=some a->a.block < w2'.heap.size:=fun a e=>bg (hFr a e) hbk.size;rw[<-hv,<-hnb];refine hK.out _ _ (hHeld.more hbk) (fun hHeld=>?_);clear hK K hbk hv hnb
       try simp only[Act.put,qa,qb,qc]
       refine bc (i:=1) (x:=some 55) rfl fun K hK=>?_;have h43:=T2.blk.cell 3;simp at h43;rw[<-HPL2.out]at h43;go_simp;refine hK.out _ _ hHeld (fun hHeld=>?_);clear hK K h43
     all_goals
      try simp only[Act.put,qa,qb,qc]
      refine bc (i:=6) (x:=some 60) rfl fun K hK=>?_;have hSL:=T2.q;rw[<-HPL2.out]at hSL;refine bB _ _ _ _ rfl w2' 44 is (.slice none 0 0) 1 24 Tryz.underlying28 his hisz hiss hisb rfl qA pl qc (lq.flatMap WE.cc) rfl hSL _ rfl 1 [.slice A2 n c2'] (Src.ofSlice _ Tryz.underlying28 ⟨nb,0,none⟩ 1 1 _ rfl (fun j u hu=>by
        have hj:j < 1:=(List.getElem?_eq_some_iff.1 hu).1;rw[Addr.add_lit,Nat.zero_add,hNB.cell j];simpa using hu) (by simp[Value.oneCell'])) (by decide) (by unfold maxLen;have:=HPL.out;have:=HM6.out;have:=HQ6.out;omega) (by have:=HPL.out;have:=HM6.out;have:=HQ6.out;omega) ?_
      intro A9 c9 wA hSL9 hK9 hA9;dsimp only;have hA9n:∀a,A9=some a->(∃a',qA=some a'/\a.block=a'.block)\/w2'.heap.size<=a.block:=hA9;refine hK.out _ _ (hHeld.trans hK9 (fun j _ hj=>.inr hj)) (fun hHeld=>?_);clear hK K
      try simp only[Act.put,qa,qb,qc]
      refine bF (i:=7) (x:=some 61) (v:=.pointer (some ⟨Bn,3,none⟩)) rfl ?_;refine bc (i:=8) (x:=none) rfl fun K hK=>?_;have hg9:ae wA Bn 30 _:=hK9.blk T2.blk (fun⟨a,ha,e⟩=>T2.gq a ha e);have hc43:=hg9.cell 3;have hf43:=hg9.frozen 3;simp at hc43;have T9:=T2.moreR (R':=fun j=>R j\/∃a,A2=some a/\j=a.block) (fun j hj=>.inl hj) (fun j hw hr=>by rcases hr with hr | ⟨a,ha,e⟩;exact T2.dis j hw hr;exact hW2 j hw a ha e) (fun j hr=>by rcases hr with hr | ⟨a,ha,e⟩;exact T2.rin j hr;(rw[e];exact⟨hFB a ha,hFr a ha,hUn a ha⟩));have hpk9:∀e:WE,e∈lq++[(⟨⟨n,z,at_⟩,A2,c2'⟩:WE)]->ci wA (fun j=>R j\/∃a,A2=some a/\j=a.block) e.A e.v.n e.c e.v.z:=fun e he=>by
       have hx:ci w2' (fun j=>R j\/∃a,A2=some a/\j=a.block) e.A e.v.n e.c e.v.z:=by
        rcases List.mem_append.1 he with he | he
        ·exact T9.qe e he
        ·have:e=(⟨⟨n,z,at_⟩,A2,c2'⟩:WE):=by simpa using he
         rw[this]
         exact ci.of_clone hp1 hp9 hc2 HBY.out hR2
       exact hx.keep hK9 (fun j ⟨a,ha,e2⟩ hr=>T9.dis j (by rw[e2];exact T9.wq a ha) hr)
      have hlen9:(lq++[(⟨⟨n,z,at_⟩,A2,c2'⟩:WE)]).length=pl+1:=by rw[List.length_append,HPL2.out];rfl
      have hSL9':SL wA 44 1 A9 (lq++[(⟨⟨n,z,at_⟩,A2,c2'⟩:WE)]).length c9 ((lq++[(⟨⟨n,z,at_⟩,A2,c2'⟩:WE)]).flatMap WE.cc):=by
       rw[hlen9,List.flatMap_append]
       exact hSL9
      have TF:=T9.setQ hK9 hA9n hSL9' hpk9;rw[hlen9]at TF;have hbA:Below Bn w wA:=aa.below ((show Below Bn w W6 from B6.out).trans (hb2.mono hs6)) (hK9.mono (G:=W) (fun j ⟨a,ha,e2⟩=>by rw[e2];exact T2.wq a ha)) (fun j hj=>(T2.win j hj).1) (ba hs6 hb2.size);have HTF:=zh TF;have HBF:=zh (show Below Bn w (wA.setCell ⟨Bn,3,none⟩ (.slice A9 (pl+1) c9))from hbA.setCell (p:=⟨Bn,3,none⟩) ao _);have HVF:=zh (show(lq++[(⟨⟨n,z,at_⟩,A2,c2'⟩:WE)]).map (·.v)=(lq0.take (j+1)).map (·.v)from by rw[HTK.out,List.map_append,VV.out];rfl);have hS9:aa (fun j=>j=Bn\/∃a,qA=some a/\j=a.block) W6 (wA.setCell ⟨Bn,3,none⟩ (.slice A9 (pl+1) c9)):=hHeld.setCell (p:=⟨Bn,3,none⟩) (.inl rfl) _;clear TF hSL9 hSL9' hpk9 hK9 hA9 hA9n T9 hg9 hSL hbA;go_simp;refine hK.out _ _ hS9 (fun hHeld=>?_);clear hK K hS9
      try simp only[Act.put]
      refine wpAnyH_done (by kernel_rfl) ?_ _;go_wp2;go_roundw
      case rel=>first | exact⟨j+1,_,_,_,_,_,by omega,by go_num,HTF.out,HVF.out,HBF.out⟩ | ((repeat apply Exists.intro);exact⟨⟨by omega,by go_num,HTF.out,HVF.out,HBF.out⟩,rfl⟩)
      case measure=>simp[intOf];omega
    ·obtain rfl:j=mq:=by omega
     have hlq:lq.map (·.v)=s.Q:=by rw[VV.out,<-TT.out.qv,HMQ.out,List.take_length]
     have HLQ:=zh hlq;have x0:=FF.out.blk.cell 0;have x1:=FF.out.blk.cell 1;have x2:=FF.out.blk.cell 2;have x3:=FF.out.blk.cell 3;simp at x0 x1 x2 x3;have f0:=FF.out.blk.frozen 0;have f1:=FF.out.blk.frozen 1;have f2:=FF.out.blk.frozen 2;have f3:=FF.out.blk.frozen 3;clear hlq;go_wp2;have hB:=((((FF.out.blk.set_ 0 (.int .u32 ny)).set_ 1 (.bool us)).set_ 2 (.slice pA lp.length pc)).set_ 3 (.slice qA lq.length qc))
     have hB':ae ((((wr.setCell ⟨Bn,0,none⟩ (.int .u32 ny)).setCell ⟨Bn,1,none⟩ (.bool us)).setCell ⟨Bn,2,none⟩ (.slice pA lp.length pc)).setCell ⟨Bn,3,none⟩ (.slice qA lq.length qc)) Bn 30 #[.int .u32 ny,.bool us,.slice pA lp.length pc,.slice qA lq.length qc]:=by simpa using hB
     have HB:=zh hB';have hKF:aa (fun j=>j=Bn) wr ((((wr.setCell ⟨Bn,0,none⟩ (.int .u32 ny)).setCell ⟨Bn,1,none⟩ (.bool us)).setCell ⟨Bn,2,none⟩ (.slice pA lp.length pc)).setCell ⟨Bn,3,none⟩ (.slice qA lq.length qc)):=((((aa.refl (F:=fun j=>j=Bn)).setCell (p:=⟨Bn,0,none⟩) rfl _).setCell (p:=⟨Bn,1,none⟩) rfl _).setCell (p:=⟨Bn,2,none⟩) rfl _).setCell (p:=⟨Bn,3,none⟩) rfl _;clear hB hB';refine bodyPost_ret (v:=.agg #[.int .u32 ny,.bool us,.slice pA lp.length pc,.slice qA lq.length qc]) ?_ ?_ ?_
     case refine_1=>exact results_cell_row (g:=Bn) (t:=30) (fr:=(0,0)) Tryz.results15 _ _ _ _ rfl HB.out Tryz.underlying30 rfl (by kernel_rfl)
     case refine_2=>rfl
     refine⟨pA,pc,lp,qA,qc,lq,by rw[HNY.out,HUS.out],?_,BB.out.mono (by rw[HBN.out];exact Nat.le_refl _) |>.trans ?_⟩
     ·rw[<-HBN.out];have pk:∀{A:Option Addr} {n c:Nat} {z:Nat->Int},ci wr R A n c z->ci ((((wr.setCell ⟨Bn,0,none⟩ (.int .u32 ny)).setCell ⟨Bn,1,none⟩ (.bool us)).setCell ⟨Bn,2,none⟩ (.slice pA lp.length pc)).setCell ⟨Bn,3,none⟩ (.slice qA lq.length qc)) (fun k=>Bn<=k) A n c z:=fun hp=>(hp.keep hKF (fun k e hr=>FF.out.dis k (by rw[e];exact FF.out.wg) hr)).mono (fun k hr=>(FF.out.rin k hr).1)
      exact⟨HLV.out,HLQ.out,FF.out.p.keepF hKF (fun a e h2=>FF.out.gp a e h2.symm),FF.out.q.keepF hKF (fun a e h2=>FF.out.gq a e h2.symm),fun e he=>pk (FF.out.pe e he),fun e he=>pk (FF.out.qe e he),fun a e=>(FF.out.win _ (FF.out.wp a e)).1,fun a e=>(FF.out.win _ (FF.out.wq a e)).1,fun e he a ha=>(FF.out.rin _ ((FF.out.pe e he).ro a ha)).2.2.keepF hKF (fun e2=>FF.out.dis _ (by rw[e2];exact FF.out.wg) ((FF.out.pe e he).ro a ha)),fun e he a ha=>(FF.out.rin _ ((FF.out.qe e he).ro a ha)).2.2.keepF hKF (fun e2=>FF.out.dis _ (by rw[e2];exact FF.out.wg) ((FF.out.qe e he).ro a ha)),fun e he a a' h1 h2 hb=>FF.out.dis a.block (by rw[hb];rcases h2 with h2 | h2;exact FF.out.wp a' h2;exact FF.out.wq a' h2) ((FF.out.pe e he).ro a h1),fun e he a a' h1 h2 hb=>FF.out.dis a.block (by rw[hb];rcases h2 with h2 | h2;exact FF.out.wp a' h2;exact FF.out.wq a' h2) ((FF.out.qe e he).ro a h1)⟩
     ·exact(aa.below (Below.refl Bn wr) hKF (fun k e=>by omega) hbs).mono (by rw[HBN.out];exact Nat.le_refl _)
end Go.Proofs.YtiiojpnckbglcaaGreat

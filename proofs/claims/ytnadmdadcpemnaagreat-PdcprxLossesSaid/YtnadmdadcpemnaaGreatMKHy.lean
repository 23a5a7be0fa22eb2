import Derived.Test.YtnadmdadcpemnaaGreatMCIy
import Derived.Test.YtnadmdadcpemnaaGreatMZOy
import Derived.Test.YtnadmdadcpemnaaGreatCGy
import Derived.Test.YtnadmdadcpemnaaGreatCEy
import Derived.Test.YtnadmdadcpemnaaGreatMDQy
import Derived.Test.YtnadmdadcpemnaaGreatMTBy
import Derived.Test.YtnadmdadcpemnaaGreatMYAy
import Derived.Test.YtnadmdadcpemnaaGreatCBy
namespace Go.Proofs.YtnadmdadcpemnaaGreat
open Go.RowKit
set_option linter.unusedVariables false
set_option linter.unusedSimpArgs false
private theorem zh {p:Prop} (h:p):Go.RowKit.Hid p:=h
structure JM (B g5 g:Nat) (CA:Array Value) (W4:Nat→Prop) (mS mU eb:Nat) (w V:World) (vo vw:List SV) (A9 A7:Option Addr) (c9 c7:Nat) (s:RS) (l:List SE) (R:Nat→Prop):Prop where
 rx:RxM V g5 s W4 R mS l mU eb
 out:LL V B A9 c9 vo R
 want:LL V B A7 c7 vw R
 ne:∀a a',A9=some a→A7=some a'→a.block ≠ a'.block
 r5:∀k,R k→B≤k
 w4:∀k,W4 k→w.heap.size≤k∧k < B
 cfg:Blk V g 25 CA
 gb:w.heap.size≤g∧g < B∧¬W4 g
 sz:B≤V.heap.size
 low:Below w.heap.size w V
section
variable {B g5 g:Nat} {CA:Array Value} {W4:Nat→Prop} {mS mU eb:Nat} {w V V':World} {vo vw:List SV} {A9 A7:Option Addr} {c9 c7:Nat} {s s':RS} {l l':List SE} {R R':Nat→Prop}
theorem JM.below (h:JM B g5 g CA W4 mS mU eb w V vo vw A9 A7 c9 c7 s l R) (hb:Below V.heap.size V V'):JM B g5 g CA W4 mS mU eb w V' vo vw A9 A7 c9 c7 s l R:=
 ⟨h.rx.below hb,h.out.below hb,h.want.below hb,h.ne,h.r5,h.w4,h.cfg.below hb h.cfg.lt,h.gb,Nat.le_trans h.sz hb.size,h.low.trans (hb.mono h.low.size)⟩
theorem JM.addR (h:JM B g5 g CA W4 mS mU eb w V vo vw A9 A7 c9 c7 s l R) (hb:Below V.heap.size V V') (pb:Nat) (h1:V.heap.size≤pb) (h2:pb < V'.heap.size):JM B g5 g CA W4 mS mU eb w V' vo vw A9 A7 c9 c7 s l (fun k=>R k∨k=pb):=by
 have hj:=h.below hb
 refine⟨hj.rx.moreR (fun k hk=>.inl hk) (fun k hw hr=>?_) (fun k hr=>?_),hj.out.more (fun k hk=>.inl hk) (fun a ha hr=>?_),hj.want.more (fun k hk=>.inl hk) (fun a ha hr=>?_),h.ne,fun k hr=>?_,h.w4,hj.cfg,h.gb,hj.sz,hj.low⟩
 ·rcases hr with hr | hr
  ·exact h.rx.dis k hw hr
  ·have:=h.rx.win k hw;omega
 ·rcases hr with hr | hr
  ·exact hj.rx.rin k hr
  ·omega
 ·rcases hr with hr | hr
  ·exact(h.out.blk a ha).2 hr
  ·have:=h.out.lt ha;omega
 ·rcases hr with hr | hr
  ·exact(h.want.blk a ha).2 hr
  ·have:=h.want.lt ha;omega
 ·rcases hr with hr | hr
  ·exact h.r5 k hr
  ·have:=h.sz;omega
theorem JM.call (h:JM B g5 g CA W4 mS mU eb w V vo vw A9 A7 c9 c7 s l R) (hT:RxM V' g5 s' W4 R' mS l' mU eb) (hR1:∀k,R' k→R k∨V.heap.size≤k) (hR2:∀k,R k→R' k) (hK:KeepF W4 V V'):JM B g5 g CA W4 mS mU eb w V' vo vw A9 A7 c9 c7 s' l' R':=by
 have hlt:∀(A:Option Addr),(∀a,A=some a→a.block < V.heap.size∧¬R a.block)→∀a,A=some a→¬R' a.block:=fun A hA a ha hr=>by
  rcases hR1 _ hr with h1 | h1
  ·exact(hA a ha).2 h1
  ·have:=(hA a ha).1;omega
 have hw:∀(A:Option Addr),(∀a,A=some a→B≤a.block)→∀a,A=some a→¬W4 a.block:=fun A hA a ha hx=>by
  have:=(h.w4 _ hx).2
  have:=hA a ha
  omega
 have hdis:∀k,W4 k→¬R k:=fun k hk hr=>h.rx.dis k hk hr
 refine⟨hT,(h.out.keep hK hdis (hw A9 (fun a ha=>(h.out.blk a ha).1))).more hR2 (hlt A9 (fun a ha=>⟨h.out.lt ha,(h.out.blk a ha).2⟩)),(h.want.keep hK hdis (hw A7 (fun a ha=>(h.want.blk a ha).1))).more hR2 (hlt A7 (fun a ha=>⟨h.want.lt ha,(h.want.blk a ha).2⟩)),h.ne,fun k hr=>?_,h.w4,hK.blk h.cfg h.gb.2.2,h.gb,Nat.le_trans h.sz hK.size,KeepF.below h.low hK (fun k hk=>(h.w4 k hk).1) h.low.size⟩
 rcases hR1 k hr with h1 | h1
 ·exact h.r5 k h1
 ·have:=h.sz;omega
theorem JM.pushOut {A':Option Addr} {c':Nat} (h:JM B g5 g CA W4 mS mU eb w V vo vw A9 A7 c9 c7 s l R) {lo ls:List SE} (e1:lo.map (·.v)=vo) (e3:∀x,x∈lo→Pkt V R x.A x.v.n x.c x.v.z) (hl:∀x,x∈ls→Pkt V R x.A x.v.n x.c x.v.z)
  (hs:SL V' 35 1 A' (vo.length+ls.length) c' (lo.map SE.val++ls.map SE.val)) (hk:KeepF (fun k=>∃a,A9=some a∧k=a.block) V V') (ha:∀a,A'=some a→(∃a',A9=some a'∧a.block=a'.block)∨V.heap.size≤a.block):JM B g5 g CA W4 mS mU eb w V' (vo++ls.map (·.v)) vw A' A7 c' c7 s l R:=by
 have h9:∀k,(∃a,A9=some a∧k=a.block)→B≤k∧¬R k:=fun k ⟨a,e,hk⟩=>by rw[hk];exact h.out.blk a e
 refine⟨h.rx.keepF hk (fun k hk=>⟨fun hw=>by have:=(h.w4 k hw).2;have:=(h9 k hk).1;omega,(h9 k hk).2⟩),h.out.push h.rx.rin h.sz e1 e3 hl hs hk ha,h.want.keep hk (fun k hk=>(h9 k hk).2) (fun a ha' hk=>?_),fun a a' e1 e2=>?_,h.r5,h.w4,hk.blk h.cfg (fun hk=>by have:=(h9 _ hk).1;have:=h.gb.2.1;omega),h.gb,Nat.le_trans h.sz hk.size,KeepF.below h.low hk (fun k hk=>?_) h.low.size⟩
 ·obtain⟨a9,e9,hx⟩:=hk
  exact h.ne a9 a e9 ha' hx.symm
 ·rcases ha a e1 with ⟨a9,e9,hx⟩ | hx
  ·rw[hx];exact h.ne a9 a' e9 e2
  ·have:=h.want.lt e2;omega
 ·have h1:=(h9 k hk).1
  have h2:=h.gb
  omega
theorem JM.pushWant {A':Option Addr} {c':Nat} (h:JM B g5 g CA W4 mS mU eb w V vo vw A9 A7 c9 c7 s l R) {lo ls:List SE} (e1:lo.map (·.v)=vw) (e3:∀x,x∈lo→Pkt V R x.A x.v.n x.c x.v.z) (hl:∀x,x∈ls→Pkt V R x.A x.v.n x.c x.v.z)
  (hs:SL V' 35 1 A' (vw.length+ls.length) c' (lo.map SE.val++ls.map SE.val)) (hk:KeepF (fun k=>∃a,A7=some a∧k=a.block) V V') (ha:∀a,A'=some a→(∃a',A7=some a'∧a.block=a'.block)∨V.heap.size≤a.block):JM B g5 g CA W4 mS mU eb w V' vo (vw++ls.map (·.v)) A9 A' c9 c' s l R:=by
 have h9:∀k,(∃a,A7=some a∧k=a.block)→B≤k∧¬R k:=fun k ⟨a,e,hk⟩=>by rw[hk];exact h.want.blk a e
 refine⟨h.rx.keepF hk (fun k hk=>⟨fun hw=>by have:=(h.w4 k hw).2;have:=(h9 k hk).1;omega,(h9 k hk).2⟩),h.out.keep hk (fun k hk=>(h9 k hk).2) (fun a ha' hk=>?_),h.want.push h.rx.rin h.sz e1 e3 hl hs hk ha,fun a a' e1 e2=>?_,h.r5,h.w4,hk.blk h.cfg (fun hk=>by have:=(h9 _ hk).1;have:=h.gb.2.1;omega),h.gb,Nat.le_trans h.sz hk.size,KeepF.below h.low hk (fun k hk=>?_) h.low.size⟩
 ·obtain⟨a7,e7,hx⟩:=hk
  exact h.ne a a7 ha' e7 hx
 ·rcases ha a' e2 with ⟨a7,e7,hx⟩ | hx
  ·rw[hx];exact h.ne a a7 e1 e7
  ·have:=h.out.lt e1;omega
 ·have h1:=(h9 k hk).1
  have h2:=h.gb
  omega
theorem LL.same {A A':Option Addr} {c c':Nat} {vs vs':List SV} {B B':Nat} {R R':Nat→Prop} (h:LL V B A c vs R) (h':LL V B' A' c' vs' R') (hl:vs.length=vs'.length) (he:∀(k:Nat) (v v':SV),vs[k]? = some v→vs'[k]? = some v'→v.n=v'.n∧∀j,j < v.n→v.z j=v'.z j):SameB V A A' vs.length:=fun k hk=>by
 have e1:vs[k]? = some vs[k]:=List.getElem?_eq_getElem hk
 have e2:vs'[k]? = some (vs'[k]'(by omega)):=List.getElem?_eq_getElem (by omega)
 obtain⟨b,o,x,hA,hb,hc,hp⟩:=h.at_ e1
 obtain⟨b',o',x',hA',hb',hc',hp'⟩:=h'.at_ e2
 obtain⟨hn,hz⟩:=he k _ _ e1 e2
 exact⟨(vs[k]).n,(vs[k]).z,(vs'[k]'(by omega)).z,⟨b,o,x.1,x.2,hA,hb,hc,hp.row⟩,⟨b',o',x'.1,x'.2,hA',hb',by rw[hn];exact hc',by rw[hn];exact hp'.row⟩,hz⟩
end
def LT (cf:Cfg) (ms:Nat→Bool) (n q:Nat) (vo:List SV) (s:RS):Prop:=(q=0∧LI cf ms n vo s)∨(1≤q∧TI cf ((rcv ms n).map (lossV cf)) ((n:Int)+q*cf.ro) q vo s)
theorem LT.len {cf:Cfg} {ms:Nat→Bool} {n q:Nat} {vo:List SV} {s:RS} (h:LT cf ms n q vo s):vo.length+s.L.length≤n:=by
 rcases h with ⟨_,h⟩ | ⟨_,h⟩
 ·exact h.len
 ·have h1:=h.len
  rw[List.length_map]at h1
  have:=rcv_len ms n
  omega
theorem LT.step {cf:Cfg} {ms:Nat→Bool} {n q:Nat} {vo:List SV} {s:RS} (h:LT cf ms n q vo s) (hro:0 < cf.ro∧cf.ro≤1000) (hn:n≤24) (hq:q < 24) (ok:s.Ok) (rng:∀e,e∈s.L→s.deliver≤e.ct∧e.ct < s.next) (T:Int) (hT:T=(n:Int)+((q+1:Nat):Int)*cf.ro) :
  ∃x s',s.tick T=(x,0,s')∧LT cf ms n (q+1) (vo++x) s':=by
 rcases h with ⟨rfl,h⟩ | ⟨h1,h⟩
 ·have e:T=(n:Int)+cf.ro:=by rw[hT];simp
  obtain⟨x,s',a,b⟩:=ti_first hro h hn ok rng
  rw[e]
  refine⟨x,s',a,.inr ⟨Nat.le_refl _,?_⟩⟩
  have:((0+1:Nat):Int)*cf.ro=cf.ro:=by simp
  rw[this]
  exact b
 ·have e:T=((n:Int)+q*cf.ro)+cf.ro:=by rw[hT,Int.natCast_add,Int.add_mul];simp;omega
  have hb:(q:Int)*cf.ro≤24*1000:=Int.mul_le_mul (by omega) hro.2 (by omega) (by decide)
  obtain⟨x,s',a,b⟩:=ti_step hro (asc_rcv cf ms n) h h1 (by omega) ok rng
  rw[←e]at a b
  refine⟨x,s',a,.inr ⟨by omega,?_⟩⟩
  rw[←hT]
  exact b
theorem LT.done {cf:Cfg} {ms:Nat→Bool} {n q:Nat} {vo:List SV} {s:RS} (h:LT cf ms n q vo s) (hq:2≤q) (rng:∀e,e∈s.L→s.deliver≤e.ct∧e.ct < s.next):vo=(rcv ms n).map (lossV cf):=by
 rcases h with ⟨h1,_⟩ | ⟨_,h⟩
 ·omega
 ·exact h.done hq rng
def wantV (k:Nat):SV:=⟨k,2,fun j=>((zI k j:Nat):Int)⟩
theorem loss_want (cf:Cfg) (L:List Nat):∀(k:Nat) (v v':SV),(L.map (lossV cf))[k]? = some v→(L.map wantV)[k]? = some v'→v.n=v'.n∧∀j,j < v.n→v.z j=v'.z j:=fun k v v' h h'=>by
 rw[List.getElem?_map]at h h'
 cases hx:L[k]? with
 | none=>rw[hx]at h;cases h
 | some x=>
  rw[hx]at h h'
  obtain rfl:=Option.some.inj h
  obtain rfl:=Option.some.inj h'
  exact⟨rfl,fun j hj=>congrArg (fun q:Nat=>(q:Int)) (plainZ_at cf x 2 (zI x) j hj)⟩
theorem pduL_row {cf:Cfg} {ct n:Nat} {z:Nat→Nat} {j:Nat} (hj:j < pduN cf n):(pduL cf ct n z)[j]? = some (.int .u8 ((pduZ cf ct n z j:Nat):Int)):=by
 unfold pduL
 rw[List.getElem?_map,List.getElem?_range hj]
 rfl
section
variable {cf:Cfg} {ms:Nat→Bool} {n i q:Nat} {B g5 g:Nat} {CA:Array Value} {W4:Nat→Prop} {mS mU eb:Nat} {w V V':World} {vo vw:List SV} {A9 A7:Option Addr} {c9 c7:Nat} {s s':RS} {l l':List SE} {R R':Nat→Prop}
theorem JM.rng (h:JM B g5 g CA W4 mS mU eb w V vo vw A9 A7 c9 c7 s l R):∀e,e∈s.L→s.deliver≤e.ct∧e.ct < s.next:=fun e he=>by
 rw[←h.rx.lv]at he
 obtain⟨x,hx,rfl⟩:=List.mem_map.1 he
 exact h.rx.rng x hx
theorem JM.llen (h:JM B g5 g CA W4 mS mU eb w V vo vw A9 A7 c9 c7 s l R):l.length=s.L.length:=by rw[←h.rx.lv,List.length_map]
theorem JM.recv (h:JM B g5 g CA W4 mS mU eb w V vo vw A9 A7 c9 c7 s l R) (hli:LI cf ms i vo s) (hok:cf.Ok) (hv:cf.Valid) (hcm:cf.cm=false) (hro:0 < cf.ro) (hm:ms i=false) (hi:i < 24) (A:Option Addr) (c:Nat) (hs:SL V 5 1 A (pduN cf 2) c (pduL cf i 2 (zI i))) (hA:∀a,A=some a→B≤a.block) :
  Calls Tryz.prog 11 #[.pointer (some ⟨g5,0,none⟩),.int .i64 i,.slice A (pduN cf 2) c] V fun e w'=>∃A' c' lo s' l' R',e=.returned (.tuple #[.slice A' lo.length c',.int .i64 0])∧OutM w' V.heap.size A' c' lo∧(∀x,x∈lo→Pkt w' R' x.A x.v.n x.c x.v.z)∧LI cf ms (i+1) (vo++lo.map (·.v)) s'∧JM B g5 g CA W4 mS mU eb w w' vo vw A9 A7 c9 c7 s' l' R'∧(∀k,R k→R' k)∧KeepF W4 V w':=by
 obtain⟨x,s',e1,e2⟩:=li_recv hok hro hli h.rx.ok h.rng hm hi
 have hC:=hli.C
 have hl:=h.llen
 have hln:=hli.len
 have hz:=zI_lt i
 have hrec:=recv_pdu g5 s W4 R mS l mU eb V h.rx (by rw[hC];exact hok) (by rw[hC];exact hv) (by rw[hC];exact hcm) (by omega) (by rw[hli.dup];decide) i A 2 c i (zI i) (by decide) (by decide) (fun j _=>hz j) (by rw[hC];exact hs.le) (by rw[hC];exact hs.rowOf (fun j hj=>pduL_row hj)) (fun a ha hw=>by
  have h1:=hA a ha
  have h2:=(h.w4 _ hw).2
  omega)
 rw[hC]at hrec
 refine hrec.mono ?_
 rintro e w' ⟨R',l',A',c',lo,he,hO,hm',hp',hT,hR1,hR2,hK⟩
 rw[e1]at he hm' hT
 exact⟨A',c',lo,s',l',R',he,hO,hp',by rw[hm'];exact e2,h.call hT hR1 hR2 hK,hR2,hK⟩
theorem JM.tickc (h:JM B g5 g CA W4 mS mU eb w V vo vw A9 A7 c9 c7 s l R) (hlt:LT cf ms n q vo s) (hC:s.C=cf) (hro:0 < cf.ro∧cf.ro≤1000) (hn:n≤24) (hq:q < 24) (T:Int) (hT:T=(n:Int)+((q+1:Nat):Int)*cf.ro) :
  Calls Tryz.prog 13 #[.pointer (some ⟨g5,0,none⟩),.int .i64 T] V fun e w'=>∃A' c' lo s' l',e=.returned (.tuple #[.slice A' lo.length c',.int .i64 0])∧OutM w' V.heap.size A' c' lo∧(∀x,x∈lo→Pkt w' R x.A x.v.n x.c x.v.z)∧LT cf ms n (q+1) (vo++lo.map (·.v)) s'∧JM B g5 g CA W4 mS mU eb w w' vo vw A9 A7 c9 c7 s' l' R∧KeepF W4 V w':=by
 obtain⟨x,s',e1,e2⟩:=hlt.step hro hn hq h.rx.ok h.rng T hT
 have hl:=h.llen
 have hln:=hlt.len
 refine(tick_ok g5 s W4 R mS l mU eb V h.rx (by rw[hC];omega) (by omega) T).mono ?_
 rintro e w' ⟨l',A',c',lo,he,hO,hm',hp',hT',hK⟩
 rw[e1]at he hm' hT'
 exact⟨A',c',lo,s',l',he,hO,hp',by rw[hm'];exact e2,h.call hT' (fun k hk=>.inl hk) (fun k hk=>hk) hK,hK⟩
theorem LT.C (h:LT cf ms n q vo s):s.C=cf:=by
 rcases h with ⟨_,h⟩ | ⟨_,h⟩
 ·exact h.C
 ·exact h.C
end
end Go.Proofs.YtnadmdadcpemnaaGreat
namespace Go.Proofs.YtnadmdadcpemnaaGreat
open Go.RowKit
set_option linter.unusedVariables false
set_option linter.unusedSimpArgs false
attribute [local go_sem ↓] Go.wp_at_zero Go.wp_at_succ
def mk46 (y:Nat→Int) (i k:Nat):Bool:=(List.range k).any fun q=>decide (y q=(i:Int))
theorem mk46_succ (y:Nat→Int) (i k:Nat):mk46 y i (k+1)=(mk46 y i k || decide (y k=(i:Int))):=by
 unfold mk46
 rw[List.range_succ,List.any_append]
 simp
theorem rowI (wr:World) (i:Nat) (hi:i < 24):Row (wr.alloc (.cells #[.int .u8 (i:Int),.int .u8 7] 5)) (wr.alloc (.cells #[.int .u8 (i:Int),.int .u8 7] 5)).heap.size (some ⟨wr.heap.size,0,none⟩) 2 (fun j=>.int .u8 ((zI i j:Nat):Int)):=
 row_lit wr #[.int .u8 (i:Int),.int .u8 7] 2 (fun j=>zI i j) rfl (fun j hj=>by
  rcases (by omega:j=0∨j=1)with rfl | rfl
  ·show some (Value.int .u8 (i:Int))=some (Value.int .u8 ((zI i 0:Nat):Int))
   rw[show zI i 0=i from Nat.mod_eq_of_lt (by omega)]
  ·rfl)
set_option maxRecDepth 100000 in
set_option maxHeartbeats 6400000 in
theorem losses_walk (c:Cfg) (hck:c.Ok) (nn:Int) (A2:Option Addr) (m cp:Nat) (y:Nat→Int) (hm:m≤maxLen) (rd:Int) (w:World) (hr2:Row w w.heap.size A2 m (fun j=>.int .i64 (y j))) :
  Calls Tryz.prog 3 #[.agg c.arr,.int .i64 nn,.slice A2 m cp,.int .i64 rd] w fun e w'=>e=.returned (.bool true)∧Below w.heap.size w w':=by
 unfold maxLen at hm
 have HKN:=zh (fun V=>known_true V)
 have HPL:=zh (fun V=>plain46_ok c V)
 obtain⟨cf,hcf⟩:∃cf:Cfg,cf={ ({ c.noK with ro:=rd }:Cfg)with ds:=0 }:=⟨_,rfl⟩
 have hok:cf.Ok:=by rw[hcf];exact⟨hck.key,hck.code⟩
 have hcm:cf.cm=false:=by rw[hcf];rfl
 have hro:cf.ro=rd:=by rw[hcf]
 have HVL:=zh (fun V=>rvalid45_ok cf V)
 have HNW:=zh (fun(hv:cf.Valid) V=>rnew_ok cf V hv)
 have HCF:=zh (And.intro hok (And.intro hcm hro))
 have HS0:Hid ((Tryz.prog.info? 25).map (·.size)=some c.arr.size):=zh (by rw[c.arr_size];exact infoPd)
 have HS1:Hid ((Tryz.prog.info? 25).map (·.size)=some c.noK.arr.size):=zh (by rw[c.noK.arr_size];exact infoPd)
 have HS2:Hid ((Tryz.prog.info? 25).map (·.size)=some cf.arr.size):=zh (by rw[cf.arr_size];exact infoPd)
 have HSS:Hid (c.arr.size=c.noK.arr.size):=zh (by rw[c.arr_size,c.noK.arr_size])
 have HO1:=zh c.noK.arr_one
 have HSET:Hid ((c.noK.arr.setIfInBounds 38 (.int .i64 rd)).setIfInBounds 37 (.int .i64 0)=cf.arr):=zh (by rw[Cfg.setRo_arr,Cfg.setDs_arr,hcf])
 have HY38:=zh (show c.noK.arr[38]? = some (.int .i64 c.ro)from c.noK.arr_at (by decide))
 have HY37:=zh (show c.noK.arr[37]? = some (.int .i64 c.ds)from c.noK.arr_at (by decide))
 have HPDU:=zh (fun(hv:cf.Valid) i (hi:i < 24) pb V (hr:Row V V.heap.size (some ⟨pb,0,none⟩) 2 (fun j=>.int .u8 ((zI i j:Nat):Int)))=>rpdu_any cf hok hv i (by omega) (some ⟨pb,0,none⟩) 2 2 (zI i) (by decide) (by decide) V hr (fun j _=>zI_lt i j))
 have HR2:=zh hr2
 obtain⟨Z,hZ⟩:∃Z,Z=c.arr:=⟨_,rfl⟩
 obtain⟨Y,hY⟩:∃Y,Y=c.noK.arr:=⟨_,rfl⟩
 obtain⟨CA,hCA⟩:∃CA,CA=cf.arr:=⟨_,rfl⟩
 rw[←hZ]at HPL HS0 HSS ⊢
 rw[←hY]at HPL HS1 HSS HO1 HSET HY38 HY37
 rw[←hCA]at HVL HS2 HSET HPDU HNW
 have HU:=zh Tryz.underlying25
 have m0:(0:Int)≤(m:Int):=by omega
 clear hZ hY hCA hok hcm hro hcf hck hr2
 go_enter Tryz.func3,Tryz.ntmps3
 go_upto_region 1 with (fail)
 obtain⟨g,hg⟩:∃g,g=w.heap.size:=⟨_,rfl⟩
 refine wp_let (fun W=>Blk W g 25 Z∧Below w.heap.size w W) ⟨by rw[hg];exact Blk.new _ _ _,(Below.refl _ w).alloc (Nat.le_refl _) _⟩ ?_
 rintro W1 ⟨b1,b2⟩
 have B1:=zh b1
 have B2:=zh b2
 have HG:=zh hg
 rw[←hg]
 clear b1 b2 hg
 go_upto_region 2 with (first
  | (refine wpList_load_row rfl _ _ rfl g rfl 25 Z (0,0) _ B1.out HU.out rfl HS0.out ?_)
  | (go_at_call 7;refine(HPL.out _).mono ?_;rintro e w2 ⟨rfl,hB⟩;have C1:=zh (B1.out.below hB B1.out.lt);have C2:=zh (B2.out.trans (hB.mono B2.out.size));clear hB)
  | (refine wpList_store_row rfl _ _ _ rfl g Y rfl rfl 25 _ C1.out HS1.out HSS.out HO1.out ?_))
 try simp only[Act.put]
 refine wp_let (fun W=>Blk W g 25 Y∧Below w.heap.size w W) ⟨setRow_heap _ _ _ Y 25 (0,0) C1.out,belowRow C2.out (by rw[HG.out];exact Nat.le_refl _) _⟩ ?_
 rintro W2 ⟨b1,b2⟩
 have D1:=zh b1
 have D2:=zh b2
 have y38:=(b1.cell 38).trans HY38.out
 have y37:=(b1.cell 37).trans HY37.out
 have f38:=b1.frozen 38
 have f37:=b1.frozen 37
 clear b1 b2 B1 B2 C1 C2
 go_upto_region 3 with (fail)
 refine wp_let (fun W=>Blk W g 25 CA∧Below w.heap.size w W) ⟨by rw[←HSET.out];exact(D1.out.set_ 38 _).set_ 37 _,(D2.out.setCell (p:=⟨g,38,none⟩) (by rw[HG.out];exact Nat.le_refl _) _).setCell (p:=⟨g,37,none⟩) (by rw[HG.out];exact Nat.le_refl _) _⟩ ?_
 rintro W3 ⟨b1,b2⟩
 have E1:=zh b1
 have E2:=zh b2
 clear b1 b2 D1 D2 y38 y37 f38 f37
 by_cases hall:¬(cf.Valid∧1≤rd∧rd≤1000∧0≤nn∧nn≤24∧(m:Int)≤24)
 ·have HALL:=zh hall
  clear hall
  obtain⟨vb,hvb⟩:∃vb,vb=decide cf.Valid:=⟨_,rfl⟩
  have HVB:=zh hvb
  rw[←hvb]at HVL
  clear hvb
  cases vb
  ·go_wp2_with (first
    | (refine wpList_load_row rfl _ _ rfl g rfl 25 CA (0,0) _ E1.out HU.out rfl HS2.out ?_)
    | (go_at_call 8;refine(HVL.out _).mono ?_;rintro e w2 ⟨rfl,hB⟩;have F2:=zh (E2.out.trans (hB.mono E2.out.size));clear hB)
    | (go_at_call 9;refine(HKN.out _).mono ?_;rintro e w3 ⟨rfl,hB⟩;have F3:=zh (F2.out.trans (hB.mono F2.out.size));clear hB))
   go_ret
   exact⟨rfl,F3.out⟩
  by_cases t1:rd < 1
  ·have d1:decide (rd < 1)=true:=decide_eq_true t1
   go_wp2_with (first
    | (refine wpList_load_row rfl _ _ rfl g rfl 25 CA (0,0) _ E1.out HU.out rfl HS2.out ?_)
    | (go_at_call 8;refine(HVL.out _).mono ?_;rintro e w2 ⟨rfl,hB⟩;have F2:=zh (E2.out.trans (hB.mono E2.out.size));clear hB)
    | (go_at_call 9;refine(HKN.out _).mono ?_;rintro e w3 ⟨rfl,hB⟩;have F3:=zh (F2.out.trans (hB.mono F2.out.size));clear hB))
   go_ret
   exact⟨rfl,F3.out⟩
  have d1:decide (rd < 1)=false:=decide_eq_false t1
  by_cases t2:1000 < rd
  ·have d2:decide (1000 < rd)=true:=decide_eq_true t2
   go_wp2_with (first
    | (refine wpList_load_row rfl _ _ rfl g rfl 25 CA (0,0) _ E1.out HU.out rfl HS2.out ?_)
    | (go_at_call 8;refine(HVL.out _).mono ?_;rintro e w2 ⟨rfl,hB⟩;have F2:=zh (E2.out.trans (hB.mono E2.out.size));clear hB)
    | (go_at_call 9;refine(HKN.out _).mono ?_;rintro e w3 ⟨rfl,hB⟩;have F3:=zh (F2.out.trans (hB.mono F2.out.size));clear hB))
   go_ret
   exact⟨rfl,F3.out⟩
  have d2:decide (1000 < rd)=false:=decide_eq_false t2
  by_cases t3:nn < 0
  ·have d3:decide (nn < 0)=true:=decide_eq_true t3
   go_wp2_with (first
    | (refine wpList_load_row rfl _ _ rfl g rfl 25 CA (0,0) _ E1.out HU.out rfl HS2.out ?_)
    | (go_at_call 8;refine(HVL.out _).mono ?_;rintro e w2 ⟨rfl,hB⟩;have F2:=zh (E2.out.trans (hB.mono E2.out.size));clear hB)
    | (go_at_call 9;refine(HKN.out _).mono ?_;rintro e w3 ⟨rfl,hB⟩;have F3:=zh (F2.out.trans (hB.mono F2.out.size));clear hB))
   go_ret
   exact⟨rfl,F3.out⟩
  have d3:decide (nn < 0)=false:=decide_eq_false t3
  by_cases t4:24 < nn
  ·have d4:decide (24 < nn)=true:=decide_eq_true t4
   go_wp2_with (first
    | (refine wpList_load_row rfl _ _ rfl g rfl 25 CA (0,0) _ E1.out HU.out rfl HS2.out ?_)
    | (go_at_call 8;refine(HVL.out _).mono ?_;rintro e w2 ⟨rfl,hB⟩;have F2:=zh (E2.out.trans (hB.mono E2.out.size));clear hB)
    | (go_at_call 9;refine(HKN.out _).mono ?_;rintro e w3 ⟨rfl,hB⟩;have F3:=zh (F2.out.trans (hB.mono F2.out.size));clear hB))
   go_ret
   exact⟨rfl,F3.out⟩
  have d4:decide (24 < nn)=false:=decide_eq_false t4
  have t5:24 < (m:Int):=by
   by_cases h:24 < (m:Int)
   ·exact h
   ·exact absurd ⟨of_decide_eq_true HVB.out.symm,by omega,by omega,by omega,by omega,by omega⟩ HALL.out
  have d5:decide (24 < (m:Int))=true:=decide_eq_true t5
  go_wp2_with (first
   | (refine wpList_load_row rfl _ _ rfl g rfl 25 CA (0,0) _ E1.out HU.out rfl HS2.out ?_)
   | (go_at_call 8;refine(HVL.out _).mono ?_;rintro e w2 ⟨rfl,hB⟩;have F2:=zh (E2.out.trans (hB.mono E2.out.size));clear hB)
   | (go_at_call 9;refine(HKN.out _).mono ?_;rintro e w3 ⟨rfl,hB⟩;have F3:=zh (F2.out.trans (hB.mono F2.out.size));clear hB))
  go_ret
  exact⟨rfl,F3.out⟩
 obtain⟨hv,r1,r2,n1,n2,m24⟩:=Classical.not_not.1 hall
 rw[decide_eq_true hv]at HVL
 obtain⟨n,rfl⟩:∃n:Nat,nn=(n:Int):=⟨nn.toNat,by omega⟩
 have HVV:=zh hv
 have HRD:=zh (show 0 < rd∧rd≤1000∧n≤24∧m≤24 by omega)
 clear hall hv
 have d1:decide (rd < 1)=false:=decide_eq_false (by omega)
 have d2:decide (1000 < rd)=false:=decide_eq_false (by omega)
 have d3:decide ((n:Int) < 0)=false:=decide_eq_false (by omega)
 have d4:decide (24 < (n:Int))=false:=decide_eq_false (by omega)
 have d5:decide (24 < (m:Int))=false:=decide_eq_false (by omega)
 go_upto_region 9 with (first
   | (refine wpList_load_row rfl _ _ rfl g rfl 25 CA (0,0) _ E1.out HU.out rfl HS2.out ?_)
   | (refine wpList_load_row rfl _ _ rfl g rfl 25 CA (0,0) _ F1.out HU.out rfl HS2.out ?_)
   | (go_at_call 8;refine(HVL.out _).mono ?_;rintro e w2 ⟨rfl,hB⟩;have F1:=zh (E1.out.below hB E1.out.lt);have F2:=zh (E2.out.trans (hB.mono E2.out.size));clear hB)
   | (go_at_call 10;refine(HNW.out HVV.out _).mono ?_;rintro e w3 ⟨v,rfl,g5,mS,mU,eb,X,rfl,hT,h1,h2,h3,h4,hB⟩;have HT:=zh hT;have G1:=zh (F1.out.below hB F1.out.lt);have G2:=zh (F2.out.trans (hB.mono F2.out.size));have HGS:=zh (And.intro h1 (And.intro h2 (And.intro h3 (And.intro h4 F1.out.lt))));clear hT h1 h2 h3 h4 hB))
 clear d1 d2 d3 d4 d5
 obtain⟨W4,hW4⟩:∃W4:Nat→Prop,W4=fun k=>k=g5∨k=mS∨k=mU∨k=eb:=⟨_,rfl⟩
 obtain⟨B,hB⟩:∃B,B=w3.heap.size:=⟨_,rfl⟩
 rw[←hW4]at HT
 have hJ0:JM B g5 g CA W4 mS mU eb w w3 [] [] none none 0 0 (rnewS cf X) [] (fun _=>False):=by
  have hf:=HGS.out
  have hsz:=F2.out.size
  have hg0:=HG.out
  refine⟨HT.out,LL.nil _ _ _,LL.nil _ _ _,fun a a' h=>(by cases h),fun k h=>h.elim,fun k hk=>⟨?_,by rw[hB];exact HT.out.win k hk⟩,G1.out,⟨by omega,by rw[hB];exact G1.out.lt,fun hw=>?_⟩,by rw[hB];exact Nat.le_refl _,G2.out⟩
  ·rw[hW4]at hk
   rcases hk with h | h | h | h<;>omega
  ·rw[hW4]at hw
   rcases hw with h | h | h | h<;>omega
 have HJ0:=zh hJ0
 obtain⟨ms,hms⟩:∃ms:Nat→Bool,ms=fun i=>mk46 y i m:=⟨_,rfl⟩
 have HMS:=zh hms
 have HLI:=zh (li_new cf X ms)
 obtain⟨s0,hs0⟩:∃s0,s0=rnewS cf X:=⟨_,rfl⟩
 rw[←hs0]at HJ0 HLI
 obtain⟨i0,hi0,hz0,hz1,hz2⟩:=info_parts Tryz.infoSl
 clear hJ0 hms hs0 HT G1 G2 F1 F2 E1 E2 HGS hW4 hB HNW HVL HPL
 have hn24:(n:Int)≤24:=by omega
 have hm24:(m:Int)≤24:=by omega
 have hn0:(0:Int)≤(n:Int):=by omega
 clear n1 n2 m24
 go_wp2
 go_loopw [11,12,13] (fun v11 v12 v13 wr=>∃(i:Nat) (vo:List SV) (A9 A7:Option Addr) (c9 c7:Nat) (s:RS) (l:List SE) (R:Nat→Prop),i≤n∧v13=.int .i64 i∧v11=.slice A9 vo.length c9∧v12=.slice A7 (rcv ms i).length c7∧LI cf ms i vo s∧JM B g5 g CA W4 mS mU eb w wr vo ((rcv ms i).map wantV) A9 A7 c9 c7 s l R) (fun _ _ v13 _=>n-(intOf v13).toNat)
 case atStart=>exact⟨0,[],none,none,0,0,s0,[],fun _=>False,by omega,rfl,rfl,rfl,HLI.out,HJ0.out⟩
 case round=>
  clear HJ0 HLI
  obtain⟨i,vo,A9,A7,c9,c7,s,l,R,hi,rfl,rfl,rfl,hli,hJ⟩:=hrel
  have HJ:=zh hJ
  have HLI:=zh hli
  have HI:=zh hi
  have HLN:=zh hli.len
  have ii0:(0:Int)≤(i:Int):=by omega
  clear hJ hli
  by_cases hlt:i < n
  ·have i1:(i:Int) < (n:Int):=by omega
   have HLT:=zh hlt
   clear hi hlt
   go_wp2
   go_loop [14,15] (fun v14 v15=>∃k:Nat,k≤m∧v15=.int .i64 k∧v14=.bool (mk46 y i k)) (fun _ v15=>m-(intOf v15).toNat)
   case atStart=>exact⟨0,by omega,rfl,rfl⟩
   case round=>
    obtain⟨k,hk,rfl,rfl⟩:=hrel
    have k0:(0:Int)≤(k:Int):=by omega
    obtain⟨bb,hbb⟩:∃bb,bb=mk46 y i k:=⟨_,rfl⟩
    have HSU:=zh (mk46_succ y i k)
    rw[←hbb]at HSU ⊢
    have HBB:=zh hbb
    clear hbb
    by_cases hkm:k < m
    ·have k1:(k:Int) < (m:Int):=by omega
     cases bb
     ·obtain⟨lb,lo,hAA,hlb,hcl⟩:=HR2.out (by omega)
      have cy:wr.cell? ⟨lb,lo+k,none⟩=some (.int .i64 (y k)):=(HJ.out.low.cell (p:=⟨lb,lo+k,none⟩) hlb).trans (hcl k hkm)
      obtain⟨yk,hyk⟩:∃yk,yk=y k:=⟨_,rfl⟩
      rw[←hyk]at cy HSU
      subst hAA
      clear hyk hcl hlb
      by_cases he:yk=(i:Int)
      ·have h1:(yk == (i:Int))=true:=by simpa using he
       rw[decide_eq_true he]at HSU
       clear he
       go_wp2
       go_round
       case rel=>exact⟨k+1,by omega,by go_num,by rw[HSU.out];rfl⟩
       case measure=>simp[intOf];omega
      ·have h1:(yk == (i:Int))=false:=by simpa using he
       rw[decide_eq_false he]at HSU
       clear he
       go_wp2
       go_round
       case rel=>exact⟨k+1,by omega,by go_num,by rw[HSU.out];rfl⟩
       case measure=>simp[intOf];omega
     ·go_wp2
      go_round
      case rel=>exact⟨k+1,by omega,by go_num,by rw[HSU.out];rfl⟩
      case measure=>simp[intOf];omega
    ·have hkm':k=m:=by omega
     have k1:¬(k:Int) < (m:Int):=by omega
     have HMI:Hid (ms i=bb):=zh (by rw[HMS.out,HBB.out];show mk46 y i m=mk46 y i k;rw[hkm'])
     have hi24:i < 24:=by have:=HRD.out;have:=HLT.out;omega
     have HI24:=zh hi24
     clear hkm hkm' hi24 hk HSU HBB
     cases bb
     ·have hi24':(i:Int) < 24:=by have:=HI24.out;omega
      have wb:IntKind.u8.wrap (i:Int)=(i:Int):=by simp[IntKind.wrap_u8];omega
      have wu:IntKind.u32.wrap (i:Int)=(i:Int):=by simp[IntKind.wrap_u32];omega
      go_upto_region 19 with (fail)
      obtain⟨V1,hV1⟩:∃V1,V1=wr.alloc (.cells #[.int .u8 (i:Int),.int .u8 7] 5):=⟨_,rfl⟩
      obtain⟨pb,hpb⟩:∃pb,pb=wr.heap.size:=⟨_,rfl⟩
      rw[←hV1,←hpb]
      have hb1:Below wr.heap.size wr V1:=by rw[hV1];exact(Below.refl _ _).alloc (Nat.le_refl _) _
      have hB1:Blk V1 pb 5 #[.int .u8 (i:Int),.int .u8 7]:=by rw[hV1,hpb];exact Blk.new _ _ _
      have HJ1:=zh (HJ.out.addR hb1 pb (by omega) hB1.lt)
      have hrow:Row V1 V1.heap.size (some ⟨pb,0,none⟩) 2 (fun j=>.int .u8 ((zI i j:Nat):Int)):=by rw[hV1,hpb];exact rowI wr i HI24.out
      have HPD:=zh (HPDU.out HVV.out i HI24.out pb V1 hrow)
      have HROW:=zh hrow
      clear hV1 hpb hb1 hB1 hrow
      go_upto_region 20 with (first
       | (refine wpList_load_row rfl _ _ rfl g rfl 25 CA (0,0) _ HJ1.out.cfg HU.out rfl HS2.out ?_)
       | (go_at_call 12;refine(HPD.out).mono ?_;rintro e u1 ⟨A5,c5,rfl,hs5,hf5,hB5⟩;have HRV:=zh ((HJ1.out.below hB5).recv HLI.out HCF.out.1 HVV.out HCF.out.2.1 (by rw[HCF.out.2.2];exact HRD.out.1) HMI.out HI24.out A5 c5 hs5 (fun a ha=>by have:=hf5 a ha;have:=HJ1.out.sz;omega));have HB5:=zh hB5;clear hs5 hf5 hB5)
       | (go_at_call 11;refine(HRV.out).mono ?_;rintro e w5 ⟨A6,c6,lo6,s6,l6,R6,rfl,hO6,hp6,hli6,hJ6,hR6,hK6⟩;have HO6:=zh hO6;have HP6:=zh hp6;have HLI6:=zh hli6;have HJ6:=zh hJ6;have HR6:=zh hR6;have HK6:=zh hK6;clear hO6 hp6 hli6 hJ6 hR6 hK6))
      have hpk:Pkt w5 R6 (some ⟨pb,0,none⟩) 2 2 (wantV i).z:=by
       refine⟨by decide,by decide,Nat.le_refl _,fun j hj=>by show 0≤((zI i j:Nat):Int)∧((zI i j:Nat):Int) < 256;have:=zI_lt i j;omega,?_,fun a ha=>by cases ha;exact HR6.out _ (.inr rfl)⟩
       have h1:Row u1 u1.heap.size (some ⟨pb,0,none⟩) 2 (fun j=>.int .u8 ((zI i j:Nat):Int)):=HROW.out.next HB5.out
       exact(HK6.out.row h1 (Nat.le_refl _) (fun a ha _ hw=>by
        cases ha
        exact HJ6.out.rx.dis _ hw (HR6.out _ (.inr rfl)))).more HK6.out.size
      have HPK:=zh hpk
      obtain⟨lo9,f1,f2,f3⟩:=HJ6.out.out.ex
      obtain⟨lo7,g1,g2,g3⟩:=HJ6.out.want.ex
      rw[List.length_map]at g2
      have hlen:=HLI6.out.len
      rw[List.length_append,List.length_map]at hlen
      have hrl:=rcv_len ms i
      have HRS:=zh (show(rcv ms (i+1)).length=(rcv ms i).length+1 by rw[rcv_got HMI.out,List.length_append];rfl)
      obtain⟨no,hno⟩:∃no,no=vo.length:=⟨_,rfl⟩
      obtain⟨nl,hnl⟩:∃nl,nl=lo6.length:=⟨_,rfl⟩
      obtain⟨nw,hnw⟩:∃nw,nw=(rcv ms i).length:=⟨_,rfl⟩
      have HSRC:=zh (show Src Tryz.prog 1 34 (.slice A6 lo6.length c6) lo6.length (lo6.map SE.val) w5 from SL.src1 Tryz.underlying34 HO6.out.1 (fun u hu=>by
       obtain⟨x,_,rfl⟩:=List.mem_map.1 hu
       rfl))
      rw[←hno]at f2 hlen ⊢
      rw[←hnl]at HSRC hlen ⊢
      rw[←hnw]at g2 hrl HRS ⊢
      have HF1:=zh f1
      have HF2:=zh f2
      have HF3:=zh f3
      have HG1:=zh g1
      have HG3:=zh g3
      have HW7:=zh (show ∀V8,KeepF (fun k=>∃a,A9=some a∧k=a.block) w5 V8→SL (V8.alloc (.cells #[.slice (some ⟨pb,0,none⟩) 2 2] 35)) 35 1 A7 nw c7 (lo7.map SE.val)from fun V8 hk=>(g2.keepF hk (fun a ha hx=>by
       obtain⟨a9,e9,hx⟩:=hx
       exact HJ6.out.ne a9 a e9 ha hx.symm)).next ((Below.refl _ _).alloc (Nat.le_refl _) _))
      have HNN:=zh (And.intro hno (And.intro hnl hnw))
      have HBD:=zh (show no+nl≤24∧nw+1≤24 by have:=HI24.out;omega)
      clear f1 f2 f3 g1 g2 g3 hlen hrl hno hnl hnw hpk
      go_upto_region 22 with (fail)
      go_wp2_with (first
       | (refine wpList_sl_appendA rfl _ _ 34 34 rfl _ 35 i0 (.slice none 0 0) 1 24 Tryz.underlying34 hi0 hz0 hz1 hz2 rfl A9 no c9 (lo9.map SE.val) rfl HF2.out (.slice A6 nl c6) rfl nl (lo6.map SE.val) HSRC.out (by have:=HBD.out;unfold maxLen;omega) (by have:=HBD.out;omega) ?_;intro A8 c8 V8 hs8 hk8 ha8;have HS8:=zh hs8;have HK8:=zh hk8;have HA8:=zh ha8;have HV9:=zh (HW7.out V8 hk8);clear hs8 hk8 ha8)
       | (refine wpList_sl_append rfl _ _ 34 34 rfl _ 35 i0 (.slice none 0 0) 1 24 Tryz.underlying34 hi0 hz0 hz1 hz2 rfl A7 nw c7 (lo7.map SE.val) rfl HV9.out (.slice (some ⟨V8.heap.size,0,none⟩) 1 1) rfl 1 [.slice (some ⟨pb,0,none⟩) 2 2] (src_new V8 _ rfl) (by omega) (by have:=HBD.out;unfold maxLen;omega) (by have:=HBD.out;omega) ?_;intro A10 c10 V10 hs10 hk10 ha10;have HS10:=zh hs10;have HK10:=zh hk10;have HA10:=zh ha10;clear hs10 hk10 ha10))
      go_roundw
      case rel=>
       have hJ8:=HJ6.out.pushOut HF1.out HF3.out HP6.out (by rw[←HNN.out.1,←HNN.out.2.1];exact HS8.out) HK8.out HA8.out
       have hb9:Below V8.heap.size V8 (V8.alloc (.cells #[.slice (some ⟨pb,0,none⟩) 2 2] 35)):=(Below.refl _ _).alloc (Nat.le_refl _) _
       have hkp:∀{A:Option Addr} {n c:Nat} {z:Nat→Int},Pkt w5 R6 A n c z→Pkt (V8.alloc (.cells #[.slice (some ⟨pb,0,none⟩) 2 2] 35)) R6 A n c z:=fun h=>(h.keep HK8.out (fun k ⟨a,e,hk⟩ hr=>by rw[hk]at hr;exact(HJ6.out.out.blk a e).2 hr)).keep (KeepF.of_below (F:=fun _=>False) hb9) (fun _ h=>h.elim)
       have hJ10:=(hJ8.below hb9).pushWant (lo:=lo7) (ls:=[⟨wantV i,some ⟨pb,0,none⟩,2⟩]) HG1.out (fun x hx=>hkp (HG3.out x hx)) (fun x hx=>by rw[List.mem_singleton.1 hx];exact hkp HPK.out) (by rw[List.length_map,←HNN.out.2.2];exact HS10.out) HK10.out HA10.out
       have hrg:(rcv ms i).map wantV++[wantV i] = (rcv ms (i+1)).map wantV:=by rw[rcv_got HMI.out,List.map_append];rfl
       have hl9:(vo++lo6.map (·.v)).length=no+nl:=by rw[List.length_append,List.length_map,HNN.out.1,HNN.out.2.1]
       refine⟨i+1,vo++lo6.map (·.v),A8,A10,c8,c10,s6,l6,R6,HLT.out,by go_num,by rw[hl9],by rw[HRS.out],HLI6.out,?_⟩
       rw[←hrg]
       exact hJ10
      case measure=>have:=HLT.out;simp[intOf];omega
     ·go_wp2
      go_roundw
      case rel=>exact⟨i+1,vo,A9,A7,c9,c7,s,l,R,HLT.out,by go_num,rfl,by rw[rcv_miss HMI.out],HLI.out.miss HMI.out,by rw[rcv_miss HMI.out];exact HJ.out⟩
      case measure=>have:=HLT.out;simp[intOf];omega
  ·obtain rfl:n=i:=by omega
   have i1:¬(n:Int) < (n:Int):=by omega
   have HLT0:=zh (show LT cf ms n 0 vo s from .inl ⟨rfl,HLI.out⟩)
   have HJ0:=HJ
   clear hlt hi HLI HJ
   go_wp2
   go_loopw [11,19] (fun v11 v19 wr=>∃(q:Nat) (vo:List SV) (A9:Option Addr) (c9:Nat) (s:RS) (l:List SE) (R:Nat→Prop),q≤24∧v19=.int .i64 ((q:Int)+1)∧v11=.slice A9 vo.length c9∧LT cf ms n q vo s∧JM B g5 g CA W4 mS mU eb w wr vo ((rcv ms n).map wantV) A9 A7 c9 c7 s l R) (fun _ v19 _=>25-(intOf v19).toNat)
   case atStart=>exact⟨0,vo,A9,c9,s,l,R,by omega,rfl,rfl,HLT0.out,HJ0.out⟩
   case round=>
    clear HJ0 HLT0
    obtain⟨q,vo,A9,c9,s,l,R,hq,rfl,rfl,hlt,hJ⟩:=hrel
    have HJ:=zh hJ
    have HLT:=zh hlt
    have q0:(0:Int)≤(q:Int):=by omega
    clear hJ hlt
    by_cases hq24:q < 24
    ·have q1:(q:Int)+1≤24:=by omega
     have HQ24:=zh hq24
     obtain⟨KR,hKR⟩:∃KR,KR=((q:Int)+1)*rd:=⟨_,rfl⟩
     have hk0:0≤KR:=by rw[hKR];exact Int.mul_nonneg (by omega) (by omega)
     have hk1:KR≤24000:=by
      rw[hKR]
      have:((q:Int)+1)*rd≤24*1000:=Int.mul_le_mul q1 r2 (by omega) (by decide)
      omega
     have w1:IntKind.i64.wrap (((q:Int)+1)*rd)=KR:=by rw[←hKR];simp[IntKind.wrap_i64];omega
     have w2:wrap64 (((q:Int)+1)*rd)=KR:=by rw[←hKR];simp[wrap64];omega
     have HTK:=zh (fun V (hb:Below wr.heap.size wr V)=>(HJ.out.below hb).tickc HLT.out HLT.out.C (by rw[HCF.out.2.2];exact⟨HRD.out.1,HRD.out.2.1⟩) HRD.out.2.2.1 HQ24.out ((n:Int)+KR) (by rw[hKR,HCF.out.2.2];simp))
     have HKR:=zh hKR
     clear hKR hq hq24
     go_upto_region 27 with (go_at_call 13;refine(HTK.out _ (by first | exact Below.refl _ _ | exact(Below.refl _ _).drew)).mono ?_;rintro e w5 ⟨A6,c6,lo6,s6,l6,rfl,hO6,hp6,hlt6,hJ6,hK6⟩;have HO6:=zh hO6;have HP6:=zh hp6;have HLT6:=zh hlt6;have HJ6:=zh hJ6;clear hO6 hp6 hlt6 hJ6 hK6)
     obtain⟨lo9,f1,f2,f3⟩:=HJ6.out.out.ex
     have hlen:=HLT6.out.len
     rw[List.length_append,List.length_map]at hlen
     obtain⟨no,hno⟩:∃no,no=vo.length:=⟨_,rfl⟩
     obtain⟨nl,hnl⟩:∃nl,nl=lo6.length:=⟨_,rfl⟩
     have HSRC:=zh (show Src Tryz.prog 1 34 (.slice A6 lo6.length c6) lo6.length (lo6.map SE.val) w5 from SL.src1 Tryz.underlying34 HO6.out.1 (fun u hu=>by
      obtain⟨x,_,rfl⟩:=List.mem_map.1 hu
      rfl))
     rw[←hno]at f2 hlen ⊢
     rw[←hnl]at HSRC hlen ⊢
     have HF1:=zh f1
     have HF2:=zh f2
     have HF3:=zh f3
     have HNN:=zh (And.intro hno hnl)
     have HBD:=zh (show no+nl≤24 by have:=HRD.out;omega)
     clear f1 f2 f3 hlen hno hnl
     go_upto_region 29 with (fail)
     go_wp2_with (refine wpList_sl_appendA rfl _ _ 34 34 rfl _ 35 i0 (.slice none 0 0) 1 24 Tryz.underlying34 hi0 hz0 hz1 hz2 rfl A9 no c9 (lo9.map SE.val) rfl HF2.out (.slice A6 nl c6) rfl nl (lo6.map SE.val) HSRC.out (by have:=HBD.out;unfold maxLen;omega) (by have:=HBD.out;omega) ?_;intro A8 c8 V8 hs8 hk8 ha8;have HS8:=zh hs8;have HK8:=zh hk8;have HA8:=zh ha8;clear hs8 hk8 ha8)
     go_roundw
     case rel=>
      have hJ8:=HJ6.out.pushOut HF1.out HF3.out HP6.out (by rw[←HNN.out.1,←HNN.out.2];exact HS8.out) HK8.out HA8.out
      have hl9:(vo++lo6.map (·.v)).length=no+nl:=by rw[List.length_append,List.length_map,HNN.out.1,HNN.out.2]
      exact⟨q+1,vo++lo6.map (·.v),A8,c8,s6,l6,R,HQ24.out,by go_num,by rw[hl9],HLT6.out,hJ8⟩
     case measure=>have:=HQ24.out;simp[intOf];omega
    ·have q1:¬(q:Int)+1≤24:=by omega
     have hvo:=HLT.out.done (by omega) HJ.out.rng
     have hlv:vo.length=(rcv ms n).length:=by rw[hvo,List.length_map]
     have hsame:SameB wr A9 A7 (rcv ms n).length:=by
      have h:=HJ.out.out.same HJ.out.want (by rw[hvo,List.length_map,List.length_map]) (by rw[hvo];exact loss_want cf _)
      rw[hlv]at h
      exact h
     have hrl:=rcv_len ms n
     rw[hlv]
     obtain⟨nw,hnw⟩:∃nw,nw=(rcv ms n).length:=⟨_,rfl⟩
     rw[←hnw]at hsame hrl ⊢
     have HSM:=zh (fun(V:World) (hb:Below wr.heap.size wr V)=>samel_true A9 A7 nw c9 c7 V (by have:=HRD.out;unfold maxLen;omega) (hsame.below hb))
     have HLW:=zh HJ.out.low
     clear hvo hlv hsame hrl hnw hq hq24
     go_wp2_with (first
      | (go_at_call 14;refine(HSM.out _ (by first | exact Below.refl _ _ | exact(Below.refl _ _).drew)).mono ?_;rintro e w6 ⟨rfl,hB⟩;have HB6:=zh hB;clear hB)
      | (go_at_call 9;refine(HKN.out _).mono ?_;rintro e w7 ⟨rfl,hB⟩;have HB7:=zh hB;clear hB))
     go_ret
     have h1:=HLW.out.trans (HB6.out.mono HLW.out.size)
     exact⟨rfl,h1.trans (HB7.out.mono h1.size)⟩
end Go.Proofs.YtnadmdadcpemnaaGreat

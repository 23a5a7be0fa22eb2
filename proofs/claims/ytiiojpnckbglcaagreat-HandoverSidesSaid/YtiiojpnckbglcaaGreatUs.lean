import Derived.Test.YtiiojpnckbglcaaGreatHNs
import Derived.Test.YtiiojpnckbglcaaGreatApps
import Derived.Test.YtiiojpnckbglcaaGreatStrs
import Derived.RangeFuncNested
import Derived.RangeFuncBound
import Derived.RangeFuncCalls
import Derived.RangeFuncLeaves
import Derived.RangeFuncBox
import Derived.Shelf.Abstract
import Derived.Shelf.RegionOpen
import Derived.WalkKit
import Derived.OwnWalkIn
import Derived.TacticsInMore
import Derived.LoopNIn
import Derived.LoopIn
import Derived.Laws.BitsAllLaws
import Derived.WalkSpells
import Derived.Deep.QuietTactic
import Derived.BigQuiet
import Derived.Deep.RegionHeld3
set_option maxRecDepth 100000
set_option maxHeartbeats 800000
set_option linter.unusedVariables false
set_option linter.unusedSimpArgs false
namespace Go.Proofs.YtiiojpnckbglcaaGreat
open Go.RowKit
theorem Tryz.infoInt:(Tryz.prog.info? 3).map (fun i=>(i.zero,i.size,i.bytes))=some (some (.int .i64 0),1,8):=by kernel_rfl
theorem Tryz.infoByte:(Tryz.prog.info? 5).map (fun i=>(i.zero,i.size,i.bytes))=some (some (.int .u8 0),1,1):=by kernel_rfl
theorem qF {w:World} {base e g n cap:Nat} {xs:List Value} {v:Nat->Value} (h:w.ownsRow base e 1 (.slice (some ⟨g,0,none⟩) n cap) n xs) (hv:∀j,j < n->xs[j]? = some (v j)) {B:Nat} (hg:g < B):au w B (some ⟨g,0,none⟩) n v:=
 fun _=>⟨g,0,rfl,hg,fun j hj=>by
  have:=h.cells (g:=g) rfl j _ (hv j hj);rw[Nat.zero_add];have e:(⟨g,0,none⟩:Addr).add j=⟨g,j,none⟩:=by unfold Addr.add;split<;>simp_all
  rw[<-e];exact this⟩
theorem np {w:World} {base e size n:Nat} {v:Value} {xs:List Value} (h:w.ownsRow base e size v n xs) (hn:0 < n):∃g cap,v=.slice (some ⟨g,0,none⟩) n cap/\base<=g/\g < w.heap.size:=by
 rcases h.2 with ⟨_,hz⟩ | ⟨g,cap,cur,hv,hb,hh,_⟩
 ·omega
 ·exact⟨g,cap,hv,hb,(Array.getElem?_eq_some_iff.1 hh).1⟩
theorem ur {w:World} {base e size n:Nat} {v:Value} {xs:List Value} (h:w.ownsRow base e size v n xs) (hn:0 < n):∃g cap,v=.slice (some ⟨g,0,none⟩) n cap/\base<=g/\g < w.heap.size/\n<=cap:=by
 rcases h.2 with ⟨_,hz⟩ | ⟨g,cap,cur,hv,hb,hh,hc,_⟩
 ·omega
 ·exact⟨g,cap,hv,hb,(Array.getElem?_eq_some_iff.1 hh).1,hc⟩
def cj (base:Nat) (A:Option Addr):Prop:=∀a,A=some a->base<=a.block
theorem gH (base:Nat):cj base none:=fun _ h=>by cases h
theorem gM {base g o:Nat} (h:base<=g):cj base (some ⟨g,o,none⟩):=fun _ e=>by cases e;exact h
theorem aT {w:World} {b1 b2 e size n:Nat} {v:Value} {xs:List Value} (h:w.ownsRow b2 e size v n xs) (hle:b1<=b2):w.ownsRow b1 e size v n xs:=by
 obtain⟨h0,h | ⟨g,cap,cur,h1,h2,h3⟩⟩:=h
 ·exact⟨h0,.inl h⟩
 ·exact⟨h0,.inr ⟨g,cap,cur,h1,by omega,h3⟩⟩
theorem dn {w:World} {base e n:Nat} {v:Value} {xs:List Value} {f:Nat->Value} (h:w.ownsRow base e 1 v n xs) (hv:∀j,j < n->xs[j]? = some (f j)):∃A cap,v=.slice A n cap/\n<=cap/\cap<=maxLen/\cj base A/\au w w.heap.size A n f:=by
 rcases h.2 with ⟨rfl,rfl⟩ | ⟨g,cap,cur,rfl,hb,hh,hc,hm,_⟩
 ·exact⟨none,0,rfl,Nat.le_refl _,by decide,gH _,au.nil⟩
 ·exact⟨_,cap,rfl,hc,hm,gM hb,qF h hv (Array.getElem?_eq_some_iff.1 hh).1⟩
theorem ae.put {w:World} {g D:Nat} {t:TypeId} {cs:Array Value} (h:ae w g t cs) (hne:g ≠ D) (o:Obj):ae (w.putObj D o) g t cs:=(World.putObj_heap_other hne).trans h
theorem au.put {w:World} {n D:Nat} {A:Option Addr} {v:Nat->Value} (h:au w w.heap.size A n v) {o:Obj} (hD:w.heap[D]? = some o) (ho:o.isCells=false) (o':Obj):au (w.putObj D o') (w.putObj D o').heap.size A n v:=fun hn=>by
 obtain⟨b,off,e,hb,hc⟩:=h hn
 exact⟨b,off,e,by rw[World.putObj_size];exact hb,fun j hj=>cell_kept (hc j hj) (grownBy_putObj' w D o') (fun r e=>by cases e;exact⟨o,hD,ho⟩)⟩
theorem eQ (a b k:Nat) (h:b < 2 ^ k):a*2 ^ k ||| b=a*2 ^ k+b:=by
 rw[<-Nat.shiftLeft_eq,Nat.shiftLeft_add_eq_or_of_lt h]
def lV (k:IntKind) (w:World) (a:Option Addr) (len cap:Nat) (zs:List Int):Prop:=
 (a=none/\len=0/\cap=0/\zs=[])\/
 ∃x,a=some x/\len<=cap/\cap<=maxLen/\zs.length=cap/\(∀i,i < zs.length->w.cell? (x.add i)=some (.int k (zs.getD i 0)))/\∀n∈zs,(Lit.int k n).wf=true
theorem lk {k:IntKind} {w:World} {a:Option Addr} {len cap:Nat} {zs:List Int} (h:lV k w a len cap zs):au w w.heap.size a len (fun j=>.int k (zs.getD j 0)):=by
 intro hn;rcases h with ⟨_,h0,_⟩ | ⟨⟨b,off,spot⟩,rfl,hl,hm,hz,hc,_⟩
 ·omega
 ·have c0:=hc 0 (by omega);have hspot:spot=none:=by simpa[Addr.add]using World.cell?_spot c0
  subst hspot;have hadd:∀j,(⟨b,off,none⟩:Addr).add j=⟨b,off+j,none⟩:=fun j=>by unfold Addr.add;split<;>simp_all
  refine⟨b,off,rfl,?_,fun j hj=>?_⟩
  ·rw[hadd]at c0
   exact World.block_lt_of_cell? w _ c0
  ·have:=hc j (by omega);rw[hadd]at this
   exact this
theorem rW {k:IntKind} {w:World} {a:Option Addr} {len cap:Nat} {zs:List Int} (h:lV k w a len cap zs):len<=maxLen:=by
 rcases h with ⟨_,h0,_⟩ | ⟨x,_,hl,hm,_⟩<;>unfold maxLen at *<;>omega
theorem o6 (w:World) (e:TypeId):(w.alloc (.cells #[] e)).ownsRow w.heap.size e 1 (.slice (some ⟨w.heap.size,0,none⟩) 0 0) 0 []:=
 World.ownsRow_made w #[] 0 ao (by unfold maxLen;omega) rfl
theorem o9 {w w1:World} {e:TypeId} (h:(w.alloc (.cells #[] e)).grownBy w1 (Value.slice (some ⟨w.heap.size,0,none⟩) 0 0).ownBlock):Below w.heap.size w w1:=
 ((Below.refl w.heap.size w).alloc ao _).grown h (by simp) fun k hk=>by
  have:w.heap.size=k:=by simpa[Value.ownBlock]using hk
  omega
theorem au.apart {w:World} {A:Option Addr} {n g:Nat} {v:Nat->Value} {t:TypeId} {cs:Array Value} (h:au w w.heap.size A n v) (hB:ae w g t cs) (hne:∀i:Nat,i < cs.size->∀j,cs[i]? ≠ some (v j)) {p:Addr} (hp:p.block=g) (u:Value):au (w.setCell p u) (w.setCell p u).heap.size A n v:=fun hn=>by
 obtain⟨b,off,e,hb,hc⟩:=h hn;refine⟨b,off,e,by simpa using hb,fun j hj=>(World.cell?_setCell_other w p _ u (fun e=>?_)).trans (hc j hj)⟩;have h1:=hc j hj;obtain rfl:b=g:=(congrArg Addr.block e).symm.trans hp;rw[hB.cell]at h1;rcases Nat.lt_or_ge (off+j) cs.size with hl | hl
 ·exact hne _ hl j h1
 ·rw[Array.getElem?_eq_none hl]at h1;cases h1
def bG (n0 g:Nat) (A B:World):Prop:=∀b,b < n0->b ≠ g->B.heap[b]? = A.heap[b]?
theorem bG.refl (n0 g:Nat) (A:World):bG n0 g A A:=fun _ _ _=>rfl
theorem bG.trans {n0 g:Nat} {A B C:World} (h:bG n0 g A B) (k:bG n0 g B C):bG n0 g A C:=fun b h1 h2=>(k b h1 h2).trans (h b h1 h2)
theorem bG.of_below {n0 g:Nat} {A B:World} (h:Below n0 A B):bG n0 g A B:=fun b h1 _=>h.block b h1
theorem rM {n0 g:Nat} {w:World} (hn:n0<=w.heap.size) (W:World) (l:Nat) (o o':Obj) (hl:w.heap.size<=l) (h:W.heap[l]? = some o) (_:o.isCells=false) (_:o.isWalk=false):bG n0 g W (W.putObj l o'):=
 bG.of_below (belowK_b hn W l o o' hl h ‹_› ‹_›)
theorem di {A B:World} {p:Addr} (h:B.heap[p.block]? = A.heap[p.block]?):B.cell? p=A.cell? p:=by simp[World.cell?,h]
theorem bG.blk {n0 g:Nat} {A B:World} (h:bG n0 g A B) {b:Nat} {t:TypeId} {cs:Array Value} (hB:ae A b t cs) (h1:b < n0) (h2:b ≠ g):ae B b t cs:=(h b h1 h2).trans hB
theorem vz:∀y,y < 256->(bits BinOp.and .u8 ((y:Nat):Int) 1 == 1)=(y % 2 == 1):=by decide +kernel
theorem av {w w1 w2:World} (h:Below w.heap.size w w1) (h2:Below w1.heap.size w1 w2):Below w.heap.size w w2:=h.trans (h2.mono h.size)
theorem dG {w w1:World} (h:Below w.heap.size w w1) (o:Obj):Below w.heap.size w (w1.alloc o):=h.alloc h.size o
theorem bZ {w:World} {B g:Nat} {t:TypeId} (l:List Int) (h:ae w g t (l.map (Value.int .u8)).toArray) (hB:g < B):au w B (some ⟨g,0,none⟩) l.length (fun j=>.int .u8 (l.getD j 0)):=
 fun _=>⟨g,0,rfl,hB,fun j hj=>by rw[Nat.zero_add,h.cell];simp[hj,List.getD]⟩
theorem rG {w:World} {B g:Nat} {t:TypeId} (l:List Bool) (h:ae w g t (l.map Value.bool).toArray) (hB:g < B):au w B (some ⟨g,0,none⟩) l.length (fun j=>.bool (l.getD j false)):=
 fun _=>⟨g,0,rfl,hB,fun j hj=>by rw[Nat.zero_add,h.cell];simp[hj,List.getD]⟩
theorem im {w:World} {a:Option Addr} {len cap:Nat} {zs:List Int} (h:lV .u8 w a len cap zs):len<=cap/\∀j,j < len->0<=zs.getD j 0/\zs.getD j 0 < 256:=by
 rcases h with ⟨_,h0,hc,_⟩ | ⟨x,_,hl,hm,hz,_,hw⟩
 ·exact⟨by omega,fun j hj=>by omega⟩
 ·refine⟨hl,fun j hj=>?_⟩;have hj2:j < zs.length:=by omega
  have h1:=hw (zs.getD j 0) (by simp[List.getD,hj2]);have h2:=(by simpa[Lit.wf]using h1:IntKind.u8.min<=zs.getD j 0/\zs.getD j 0<=IntKind.u8.max)
  rw[show IntKind.u8.min=0 from rfl,show IntKind.u8.max=255 from rfl]at h2;omega
theorem bh {w:World} {A:Option Addr} {n:Nat} {v:Nat->Value} (h:au w w.heap.size A n v) (o:Obj):au (w.alloc o) (w.alloc o).heap.size A n v:=(h.alloc ao o).more (by simp)
theorem nL (b:Nat->Bool) (i:Nat) (h:b i=true):aC b (i+1)=i+1:=by unfold aC;rw[if_pos h]
theorem se (b:Nat->Bool) (i:Nat) (h:b i=false):aC b (i+1)=aC b i:=by
 show(if b i=true then i+1 else aC b i)=_;rw[if_neg (by simp[h])]
theorem wE:∀r,r < 8->∀q,q < 2 ^ r->bits BinOp.or .u8 ((q*2 ^ (8-r):Nat):Int) (128 / 2 ^ r)=((q*2 ^ (8-r)+2 ^ (7-r):Nat):Int):=by decide +kernel
theorem yj (b:Nat->Bool) (i:Nat) (h:b i=true):bits BinOp.or .u8 ((cQ b i (i / 8):Nat):Int) (128 / 2 ^ (i % 8))=((cQ b (i+1) (i / 8):Nat):Int):=by
 obtain⟨q,hq,e⟩:=kF b (i / 8) (i % 8) (by omega);rw[show 8*(i / 8)+i % 8=i by omega]at e;rw[lX b i h,e]
 exact wE (i % 8) (by omega) q hq
theorem tq (z:Nat->Int) (i x:Nat) (hx:z (i / 8)=(x:Int)) (h256:x < 256):(bits BinOp.and .u8 ((x:Int) / 2 ^ (7-i % 8)) 1 == 1)=bO z i:=by
 have e:((x:Int) / 2 ^ (7-i % 8))=((x / 2 ^ (7-i % 8):Nat):Int):=by simp
 rw[e,vz _ (Nat.lt_of_le_of_lt (Nat.div_le_self _ _) h256)];unfold bO;rw[hx,Int.toNat_natCast]
theorem mB {w w0:World} {base e n b:Nat} {v:Value} {xs:List Value} (h:w.ownsRow base e 1 v n xs) (hv:v.ownBlock=(Value.slice (some ⟨b,0,none⟩) 0 0).ownBlock\/v.ownBlock=some w0.heap.size):∃g cap,v=.slice (some ⟨g,0,none⟩) n cap/\n<=cap:=by
 rcases h.2 with ⟨rfl,_⟩ | ⟨g,cap,cur,hv,_,_,hc,_⟩
 ·simp[Value.ownBlock]at hv
 ·exact⟨g,cap,hv,hc⟩
theorem dc (A:Option Addr) (n c:Nat) (z:Nat->Int) (w:World) (hn:n<=140737488355328) (hr:au w w.heap.size A n (fun j=>.int .u8 (z j))) :
  Calls Tryz.prog 39 #[.slice A n c] w fun e w'=>∃A2 c2,e=.returned (.slice A2 n c2)/\n<=c2/\w'.ownsRow w.heap.size 5 1 (.slice A2 n c2) n ((List.range n).map (fun j=>.int .u8 (z j)))/\Below w.heap.size w w':=by
 have HR:=Lib.hid hr;clear hr;obtain⟨i0,hi,hz0,hz1,hz2⟩:=info_parts Tryz.infoByte;have hnil:=Lib.run_eql_slice_nil (P:=Tryz.prog) (t:=44)
 cases A with
 | none=>
  have h0:n=0:=by
   rcases Nat.eq_zero_or_pos n with h0 | h0
   ·exact h0
   ·obtain⟨b,off,h,_⟩:=HR.out h0
    cases h
  subst h0;go_enter Tryz.func39,Tryz.ntmps39;go_wp2;go_ret
  exact⟨none,0,rfl,Nat.le_refl _,World.ownsRow_nil _ _ _ _,Below.refl _ _⟩
 | some ad=>
  go_enter Tryz.func39,Tryz.ntmps39;go_wp2_with (at_builtin;refine bD _ rfl _ _ 44 rfl w.heap.size 5 i0 (.int .u8 0) 1 Tryz.underlying44 hi hz0 hz1 hz2 rfl _ _ _ rfl (o6 w 5) w.heap.size (some ad) n c (fun j=>.int .u8 (z j)) rfl (HR.out.alloc ao _) (fun _=>rfl) (by unfold maxLen;omega) (by omega) (by simp) ?_;intro v1 w1 hown1 hg1 hv1);go_ret;obtain⟨g0,c0,rfl,hcap⟩:=mB hown1 hv1
  exact⟨some ⟨g0,0,none⟩,c0,by simp,by omega,by simpa using hown1,o9 hg1⟩
theorem dt {w:World} {base e n:Nat} {A:Option Addr} {c:Nat} {f:Nat->Value} (h:w.ownsRow base e 1 (.slice A n c) n ((List.range n).map f)):cj base A/\au w w.heap.size A n f:=by
 obtain⟨A',c',hv,_,_,hf,hr⟩:=dn (f:=f) h (fun j hj=>by simp[hj])
 cases hv
 exact⟨hf,hr⟩
theorem bw (A:Option Addr) (n c:Nat) (z:Nat->Int) (w:World) (hn:n<=140737488355328) (hr:au w w.heap.size A n (fun j=>.int .u8 (z j))) :
  Calls Tryz.prog 39 #[.slice A n c] w fun e w'=>∃A2 c2,e=.returned (.slice A2 n c2)/\n<=c2/\au w' w'.heap.size A2 n (fun j=>.int .u8 (z j))/\cj w.heap.size A2/\Below w.heap.size w w':=
 (dc A n c z w hn hr).mono fun _ _ ⟨A2,c2,he,hc,ho,hb⟩=>⟨A2,c2,he,hc,(dt ho).2,(dt ho).1,hb⟩
end Go.Proofs.YtiiojpnckbglcaaGreat

import Derived.Test.YtiiojpnckbglcaaGreatHNz
import Derived.Test.YtiiojpnckbglcaaGreatAppz
import Derived.Test.YtiiojpnckbglcaaGreatStrz
import Derived.RangeFuncNested
import Derived.RangeFuncBound
import Derived.RangeFuncCalls
import Derived.RangeFuncLeaves
import Derived.RangeFuncBox
import Derived.Shelf.Abstract
import Derived.Shelf.RegionOpen
import Derived.WalkKit
import Derived.OwnWalkIn
import Derived.TacticsInMore
import Derived.LoopNIn
import Derived.LoopIn
import Derived.Laws.BitsAllLaws
import Derived.WalkSpells
import Derived.Deep.QuietTactic
import Derived.BigQuiet
import Derived.Deep.RegionHeld3
set_option maxRecDepth 100000
set_option maxHeartbeats 800000
set_option linter.unusedVariables false
set_option linter.unusedSimpArgs false
namespace Go.Proofs.YtiiojpnckbglcaaGreat
open Go.RowKit
theorem Tryz.infoInt:(Tryz.prog.info? 3).map (fun i=>(i.zero,i.size,i.bytes))=some (some (.int .i64 0),1,8):=by kernel_rfl
theorem Tryz.infoByte:(Tryz.prog.info? 5).map (fun i=>(i.zero,i.size,i.bytes))=some (some (.int .u8 0),1,1):=by kernel_rfl
theorem rJ {w:World} {base e g n cap:Nat} {xs:List Value} {v:Nat->Value} (h:w.ownsRow base e 1 (.slice (some ⟨g,0,none⟩) n cap) n xs) (hv:∀j,j < n->xs[j]? = some (v j)) {B:Nat} (hg:g < B):av w B (some ⟨g,0,none⟩) n v:=
 fun _=>⟨g,0,rfl,hg,fun j hj=>by
  have:=h.cells (g:=g) rfl j _ (hv j hj);rw[Nat.zero_add];have e:(⟨g,0,none⟩:Addr).add j=⟨g,j,none⟩:=by unfold Addr.add;split<;>simp_all
  rw[<-e];exact this⟩
theorem tE {w:World} {base e size n:Nat} {v:Value} {xs:List Value} (h:w.ownsRow base e size v n xs) (hn:0 < n):∃g cap,v=.slice (some ⟨g,0,none⟩) n cap/\base<=g/\g < w.heap.size:=by
 rcases h.2 with ⟨_,hz⟩ | ⟨g,cap,cur,hv,hb,hh,_⟩
 ·omega
 ·exact⟨g,cap,hv,hb,(Array.getElem?_eq_some_iff.1 hh).1⟩
def cF (base:Nat) (A:Option Addr):Prop:=∀a,A=some a->base<=a.block
theorem iU (base:Nat):cF base none:=fun _ h=>by cases h
theorem je {base g o:Nat} (h:base<=g):cF base (some ⟨g,o,none⟩):=fun _ e=>by cases e;exact h
theorem bH {w:World} {b1 b2 e size n:Nat} {v:Value} {xs:List Value} (h:w.ownsRow b2 e size v n xs) (hle:b1<=b2):w.ownsRow b1 e size v n xs:=by
 obtain⟨h0,h | ⟨g,cap,cur,h1,h2,h3⟩⟩:=h
 ·exact⟨h0,.inl h⟩
 ·exact⟨h0,.inr ⟨g,cap,cur,h1,by omega,h3⟩⟩
theorem cY {w:World} {base e n:Nat} {v:Value} {xs:List Value} {f:Nat->Value} (h:w.ownsRow base e 1 v n xs) (hv:∀j,j < n->xs[j]? = some (f j)):∃A cap,v=.slice A n cap/\n<=cap/\cap<=maxLen/\cF base A/\av w w.heap.size A n f:=by
 rcases h.2 with ⟨rfl,rfl⟩ | ⟨g,cap,cur,rfl,hb,hh,hc,hm,_⟩
 ·exact⟨none,0,rfl,Nat.le_refl _,by decide,iU _,av.nil⟩
 ·exact⟨_,cap,rfl,hc,hm,je hb,rJ h hv (Array.getElem?_eq_some_iff.1 hh).1⟩
theorem av.put {w:World} {n D:Nat} {A:Option Addr} {v:Nat->Value} (h:av w w.heap.size A n v) {o:Obj} (hD:w.heap[D]? = some o) (ho:o.isCells=false) (o':Obj):av (w.putObj D o') (w.putObj D o').heap.size A n v:=fun hn=>by
 obtain⟨b,off,e,hb,hc⟩:=h hn
 exact⟨b,off,e,by rw[World.putObj_size];exact hb,fun j hj=>cell_kept (hc j hj) (grownBy_putObj' w D o') (fun r e=>by cases e;exact⟨o,hD,ho⟩)⟩
theorem iB (a b k:Nat) (h:b < 2 ^ k):a*2 ^ k ||| b=a*2 ^ k+b:=by
 rw[<-Nat.shiftLeft_eq,Nat.shiftLeft_add_eq_or_of_lt h]
def qX (k:IntKind) (w:World) (a:Option Addr) (len cap:Nat) (zs:List Int):Prop:=
 (a=none/\len=0/\cap=0/\zs=[])\/
 ∃x,a=some x/\len<=cap/\cap<=maxLen/\zs.length=cap/\(∀i,i < zs.length->w.cell? (x.add i)=some (.int k (zs.getD i 0)))/\∀n∈zs,(Lit.int k n).wf=true
theorem oZ {k:IntKind} {w:World} {a:Option Addr} {len cap:Nat} {zs:List Int} (h:qX k w a len cap zs):av w w.heap.size a len (fun j=>.int k (zs.getD j 0)):=by
 intro hn;rcases h with ⟨_,h0,_⟩ | ⟨⟨b,off,spot⟩,rfl,hl,hm,hz,hc,_⟩
 ·omega
 ·have c0:=hc 0 (by omega);have hspot:spot=none:=by simpa[Addr.add]using World.cell?_spot c0
  subst hspot;have hadd:∀j,(⟨b,off,none⟩:Addr).add j=⟨b,off+j,none⟩:=fun j=>by unfold Addr.add;split<;>simp_all
  refine⟨b,off,rfl,?_,fun j hj=>?_⟩
  ·rw[hadd]at c0
   exact World.block_lt_of_cell? w _ c0
  ·have:=hc j (by omega);rw[hadd]at this
   exact this
theorem me (w:World) (e:TypeId):(w.alloc (.cells #[] e)).ownsRow w.heap.size e 1 (.slice (some ⟨w.heap.size,0,none⟩) 0 0) 0 []:=
 World.ownsRow_made w #[] 0 aB (by unfold maxLen;omega) rfl
theorem ng {w w1:World} {e:TypeId} (h:(w.alloc (.cells #[] e)).grownBy w1 (Value.slice (some ⟨w.heap.size,0,none⟩) 0 0).ownBlock):Below w.heap.size w w1:=
 ((Below.refl w.heap.size w).alloc aB _).grown h (by simp) fun k hk=>by
  have:w.heap.size=k:=by simpa[Value.ownBlock]using hk
  omega
theorem av.apart {w:World} {A:Option Addr} {n g:Nat} {v:Nat->Value} {t:TypeId} {cs:Array Value} (h:av w w.heap.size A n v) (hB:ae w g t cs) (hne:∀i:Nat,i < cs.size->∀j,cs[i]? ≠ some (v j)) {p:Addr} (hp:p.block=g) (u:Value):av (w.setCell p u) (w.setCell p u).heap.size A n v:=fun hn=>by
 obtain⟨b,off,e,hb,hc⟩:=h hn;refine⟨b,off,e,by simpa using hb,fun j hj=>(World.cell?_setCell_other w p _ u (fun e=>?_)).trans (hc j hj)⟩;have h1:=hc j hj;obtain rfl:b=g:=(congrArg Addr.block e).symm.trans hp;rw[hB.cell]at h1;rcases Nat.lt_or_ge (off+j) cs.size with hl | hl
 ·exact hne _ hl j h1
 ·rw[Array.getElem?_eq_none hl]at h1;cases h1
theorem dJ {A B:World} {p:Addr} (h:B.heap[p.block]? = A.heap[p.block]?):B.cell? p=A.cell? p:=by simp[World.cell?,h]
theorem sp:∀y,y < 256->(bits BinOp.and .u8 ((y:Nat):Int) 1 == 1)=(y % 2 == 1):=by decide +kernel
theorem aK {w w1 w2:World} (h:Below w.heap.size w w1) (h2:Below w1.heap.size w1 w2):Below w.heap.size w w2:=h.trans (h2.mono h.size)
theorem eO {w w1:World} (h:Below w.heap.size w w1) (o:Obj):Below w.heap.size w (w1.alloc o):=h.alloc h.size o
theorem jW {w:World} {B g:Nat} {t:TypeId} (l:List Int) (h:ae w g t (l.map (Value.int .u8)).toArray) (hB:g < B):av w B (some ⟨g,0,none⟩) l.length (fun j=>.int .u8 (l.getD j 0)):=
 fun _=>⟨g,0,rfl,hB,fun j hj=>by rw[Nat.zero_add,h.cell];simp[hj,List.getD]⟩
theorem pH {w:World} {a:Option Addr} {len cap:Nat} {zs:List Int} (h:qX .u8 w a len cap zs):len<=cap/\∀j,j < len->0<=zs.getD j 0/\zs.getD j 0 < 256:=by
 rcases h with ⟨_,h0,hc,_⟩ | ⟨x,_,hl,hm,hz,_,hw⟩
 ·exact⟨by omega,fun j hj=>by omega⟩
 ·refine⟨hl,fun j hj=>?_⟩;have hj2:j < zs.length:=by omega
  have h1:=hw (zs.getD j 0) (by simp[List.getD,hj2]);have h2:=(by simpa[Lit.wf]using h1:IntKind.u8.min<=zs.getD j 0/\zs.getD j 0<=IntKind.u8.max)
  rw[show IntKind.u8.min=0 from rfl,show IntKind.u8.max=255 from rfl]at h2;omega
theorem aW {w:World} {A:Option Addr} {n:Nat} {v:Nat->Value} (h:av w w.heap.size A n v) (o:Obj):av (w.alloc o) (w.alloc o).heap.size A n v:=(h.alloc aB o).more (by simp)
theorem sP (z:Nat->Int) (i x:Nat) (hx:z (i / 8)=(x:Int)) (h256:x < 256):(bits BinOp.and .u8 ((x:Int) / 2 ^ (7-i % 8)) 1 == 1)=jQ z i:=by
 have e:((x:Int) / 2 ^ (7-i % 8))=((x / 2 ^ (7-i % 8):Nat):Int):=by simp
 rw[e,sp _ (Nat.lt_of_le_of_lt (Nat.div_le_self _ _) h256)];unfold jQ;rw[hx,Int.toNat_natCast]
theorem kA {w w0:World} {base e n b:Nat} {v:Value} {xs:List Value} (h:w.ownsRow base e 1 v n xs) (hv:v.ownBlock=(Value.slice (some ⟨b,0,none⟩) 0 0).ownBlock\/v.ownBlock=some w0.heap.size):∃g cap,v=.slice (some ⟨g,0,none⟩) n cap/\n<=cap:=by
 rcases h.2 with ⟨rfl,_⟩ | ⟨g,cap,cur,hv,_,_,hc,_⟩
 ·simp[Value.ownBlock]at hv
 ·exact⟨g,cap,hv,hc⟩
theorem da (A:Option Addr) (n c:Nat) (z:Nat->Int) (w:World) (hn:n<=140737488355328) (hr:av w w.heap.size A n (fun j=>.int .u8 (z j))) :
  Calls Tryz.prog 39 #[.slice A n c] w fun e w'=>∃A2 c2,e=.returned (.slice A2 n c2)/\n<=c2/\w'.ownsRow w.heap.size 5 1 (.slice A2 n c2) n ((List.range n).map (fun j=>.int .u8 (z j)))/\Below w.heap.size w w':=by
 have HR:=Lib.hid hr;clear hr;obtain⟨i0,hi,hz0,hz1,hz2⟩:=info_parts Tryz.infoByte;have hnil:=Lib.run_eql_slice_nil (P:=Tryz.prog) (t:=44)
 cases A with
 | none=>
  have h0:n=0:=by
   rcases Nat.eq_zero_or_pos n with h0 | h0
   ·exact h0
   ·obtain⟨b,off,h,_⟩:=HR.out h0
    cases h
  subst h0;go_enter Tryz.func39,Tryz.ntmps39;go_wp2;go_ret
  exact⟨none,0,rfl,Nat.le_refl _,World.ownsRow_nil _ _ _ _,Below.refl _ _⟩
 | some ad=>
  go_enter Tryz.func39,Tryz.ntmps39;go_wp2_with (at_builtin;refine bD _ rfl _ _ 44 rfl w.heap.size 5 i0 (.int .u8 0) 1 Tryz.underlying44 hi hz0 hz1 hz2 rfl _ _ _ rfl (me w 5) w.heap.size (some ad) n c (fun j=>.int .u8 (z j)) rfl (HR.out.alloc aB _) (fun _=>rfl) (by unfold maxLen;omega) (by omega) (by simp) ?_;intro v1 w1 hown1 hg1 hv1);go_ret;obtain⟨g0,c0,rfl,hcap⟩:=kA hown1 hv1
  exact⟨some ⟨g0,0,none⟩,c0,by simp,by omega,by simpa using hown1,ng hg1⟩
theorem cQ {w:World} {base e n:Nat} {A:Option Addr} {c:Nat} {f:Nat->Value} (h:w.ownsRow base e 1 (.slice A n c) n ((List.range n).map f)):cF base A/\av w w.heap.size A n f:=by
 obtain⟨A',c',hv,_,_,hf,hr⟩:=cY (f:=f) h (fun j hj=>by simp[hj])
 cases hv
 exact⟨hf,hr⟩
theorem bB (A:Option Addr) (n c:Nat) (z:Nat->Int) (w:World) (hn:n<=140737488355328) (hr:av w w.heap.size A n (fun j=>.int .u8 (z j))) :
  Calls Tryz.prog 39 #[.slice A n c] w fun e w'=>∃A2 c2,e=.returned (.slice A2 n c2)/\n<=c2/\av w' w'.heap.size A2 n (fun j=>.int .u8 (z j))/\cF w.heap.size A2/\Below w.heap.size w w':=
 (da A n c z w hn hr).mono fun _ _ ⟨A2,c2,he,hc,ho,hb⟩=>⟨A2,c2,he,hc,(cQ ho).2,(cQ ho).1,hb⟩
end Go.Proofs.YtiiojpnckbglcaaGreat

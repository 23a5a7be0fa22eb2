import Derived.Test.YtnadmdadcpemnaaGreatHNq
import Derived.Test.YtnadmdadcpemnaaGreatAppq
import Derived.Test.YtnadmdadcpemnaaGreatStrq
import Derived.RangeFuncNested
import Derived.RangeFuncBound
import Derived.RangeFuncCalls
import Derived.RangeFuncLeaves
import Derived.RangeFuncBox
import Derived.Shelf.Abstract
import Derived.Shelf.RegionOpen
import Derived.WalkKit
import Derived.OwnWalkIn
import Derived.TacticsInMore
import Derived.LoopNIn
import Derived.LoopIn
import Derived.Laws.BitsAllLaws
import Derived.WalkSpells
import Derived.Deep.QuietTactic
import Derived.BigQuiet
import Derived.Deep.RegionHeld3
set_option maxRecDepth 100000
set_option maxHeartbeats 800000
namespace Go.Proofs.YtnadmdadcpemnaaGreat
set_option linter.unusedVariables false
set_option linter.unusedSimpArgs false
open Go.RowKit
theorem Tryz.infoInt:(Tryz.prog.info? 3).map (fun i=>(i.zero,i.size,i.bytes))=some (some (.int .i64 0),1,8):=by kernel_rfl
theorem Tryz.infoByte:(Tryz.prog.info? 5).map (fun i=>(i.zero,i.size,i.bytes))=some (some (.int .u8 0),1,1):=by kernel_rfl
theorem own_row {w:World} {base e g n cap:Nat} {xs:List Value} {v:Nat->Value} (h:w.ownsRow base e 1 (.slice (some ⟨g,0,none⟩) n cap) n xs) (hv:∀j,j < n->xs[j]? = some (v j)) {B:Nat} (hg:g < B):Row w B (some ⟨g,0,none⟩) n v:=
 fun _=>⟨g,0,rfl,hg,fun j hj=>by
  have:=h.cells (g:=g) rfl j _ (hv j hj);rw[Nat.zero_add];have e:(⟨g,0,none⟩:Addr).add j=⟨g,j,none⟩:=by unfold Addr.add;split<;>simp_all
  rw[<-e];exact this⟩
theorem own_form {w:World} {base e size n:Nat} {v:Value} {xs:List Value} (h:w.ownsRow base e size v n xs) (hn:0 < n):∃g cap,v=.slice (some ⟨g,0,none⟩) n cap/\base<=g/\g < w.heap.size:=by
 rcases h.2 with ⟨_,hz⟩ | ⟨g,cap,cur,hv,hb,hh,_⟩
 ·omega
 ·exact⟨g,cap,hv,hb,(Array.getElem?_eq_some_iff.1 hh).1⟩
def Fresh (base:Nat) (A:Option Addr):Prop:=∀a,A=some a->base<=a.block
theorem fresh_none (base:Nat):Fresh base none:=fun _ h=>by cases h
theorem fresh_some {base g o:Nat} (h:base<=g):Fresh base (some ⟨g,o,none⟩):=fun _ e=>by cases e;exact h
theorem ownsRow_mono {w:World} {b1 b2 e size n:Nat} {v:Value} {xs:List Value} (h:w.ownsRow b2 e size v n xs) (hle:b1<=b2):w.ownsRow b1 e size v n xs:=by
 obtain⟨h0,h | ⟨g,cap,cur,h1,h2,h3⟩⟩:=h
 ·exact⟨h0,.inl h⟩
 ·exact⟨h0,.inr ⟨g,cap,cur,h1,by omega,h3⟩⟩
theorem own_any {w:World} {base e n:Nat} {v:Value} {xs:List Value} {f:Nat->Value} (h:w.ownsRow base e 1 v n xs) (hv:∀j,j < n->xs[j]? = some (f j)):∃A cap,v=.slice A n cap/\n<=cap/\cap<=maxLen/\Fresh base A/\Row w w.heap.size A n f:=by
 rcases h.2 with ⟨rfl,rfl⟩ | ⟨g,cap,cur,rfl,hb,hh,hc,hm,_⟩
 ·exact⟨none,0,rfl,Nat.le_refl _,by decide,fresh_none _,Row.nil⟩
 ·exact⟨_,cap,rfl,hc,hm,fresh_some hb,own_row h hv (Array.getElem?_eq_some_iff.1 hh).1⟩
theorem or_shift (a b k:Nat) (h:b < 2 ^ k):a*2 ^ k ||| b=a*2 ^ k+b:=by
 rw[<-Nat.shiftLeft_eq,Nat.shiftLeft_add_eq_or_of_lt h]
def IsRow (k:IntKind) (w:World) (a:Option Addr) (len cap:Nat) (zs:List Int):Prop:=
 (a=none/\len=0/\cap=0/\zs=[])\/
 ∃x,a=some x/\len<=cap/\cap<=maxLen/\zs.length=cap/\(∀i,i < zs.length->w.cell? (x.add i)=some (.int k (zs.getD i 0)))/\∀n∈zs,(Lit.int k n).wf=true
theorem isRow_row {k:IntKind} {w:World} {a:Option Addr} {len cap:Nat} {zs:List Int} (h:IsRow k w a len cap zs):Row w w.heap.size a len (fun j=>.int k (zs.getD j 0)):=by
 intro hn;rcases h with ⟨_,h0,_⟩ | ⟨⟨b,off,spot⟩,rfl,hl,hm,hz,hc,_⟩
 ·omega
 ·have c0:=hc 0 (by omega);have hspot:spot=none:=by simpa[Addr.add]using World.cell?_spot c0
  subst hspot;have hadd:∀j,(⟨b,off,none⟩:Addr).add j=⟨b,off+j,none⟩:=fun j=>by unfold Addr.add;split<;>simp_all
  refine⟨b,off,rfl,?_,fun j hj=>?_⟩
  ·rw[hadd]at c0
   exact World.block_lt_of_cell? w _ c0
  ·have:=hc j (by omega);rw[hadd]at this
   exact this
theorem owns_empty (w:World) (e:TypeId):(w.alloc (.cells #[] e)).ownsRow w.heap.size e 1 (.slice (some ⟨w.heap.size,0,none⟩) 0 0) 0 []:=
 World.ownsRow_made w #[] 0 (Nat.le_refl _) (by unfold maxLen;omega) rfl
theorem copy_below {w w1:World} {e:TypeId} (h:(w.alloc (.cells #[] e)).grownBy w1 (Value.slice (some ⟨w.heap.size,0,none⟩) 0 0).ownBlock):Below w.heap.size w w1:=
 ((Below.refl w.heap.size w).alloc (Nat.le_refl _) _).grown h (by simp) fun k hk=>by
  have:w.heap.size=k:=by simpa[Value.ownBlock]using hk
  omega
theorem below_step {w w1 w2:World} (h:Below w.heap.size w w1) (h2:Below w1.heap.size w1 w2):Below w.heap.size w w2:=h.trans (h2.mono h.size)
theorem isRow_u8 {w:World} {a:Option Addr} {len cap:Nat} {zs:List Int} (h:IsRow .u8 w a len cap zs):len<=cap/\∀j,j < len->0<=zs.getD j 0/\zs.getD j 0 < 256:=by
 rcases h with ⟨_,h0,hc,_⟩ | ⟨x,_,hl,hm,hz,_,hw⟩
 ·exact⟨by omega,fun j hj=>by omega⟩
 ·refine⟨hl,fun j hj=>?_⟩;have hj2:j < zs.length:=by omega
  have h1:=hw (zs.getD j 0) (by simp[List.getD,hj2]);have h2:=(by simpa[Lit.wf]using h1:IntKind.u8.min<=zs.getD j 0/\zs.getD j 0<=IntKind.u8.max)
  rw[show IntKind.u8.min=0 from rfl,show IntKind.u8.max=255 from rfl]at h2;omega
theorem own_some_cap {w w0:World} {base e n b:Nat} {v:Value} {xs:List Value} (h:w.ownsRow base e 1 v n xs) (hv:v.ownBlock=(Value.slice (some ⟨b,0,none⟩) 0 0).ownBlock\/v.ownBlock=some w0.heap.size):∃g cap,v=.slice (some ⟨g,0,none⟩) n cap/\n<=cap:=by
 rcases h.2 with ⟨rfl,_⟩ | ⟨g,cap,cur,hv,_,_,hc,_⟩
 ·simp[Value.ownBlock]at hv
 ·exact⟨g,cap,hv,hc⟩
theorem clone_own (A:Option Addr) (n c:Nat) (z:Nat->Int) (w:World) (hn:n<=140737488355328) (hr:Row w w.heap.size A n (fun j=>.int .u8 (z j))) :
  Calls Tryz.prog 41 #[.slice A n c] w fun e w'=>∃A2 c2,e=.returned (.slice A2 n c2)/\n<=c2/\w'.ownsRow w.heap.size 5 1 (.slice A2 n c2) n ((List.range n).map (fun j=>.int .u8 (z j)))/\Below w.heap.size w w':=by
 have HR:=Lib.hid hr;clear hr;obtain⟨i0,hi,hz0,hz1,hz2⟩:=info_parts Tryz.infoByte;have hnil:=Lib.run_eql_slice_nil (P:=Tryz.prog) (t:=35)
 cases A with
 | none=>
  have h0:n=0:=by
   rcases Nat.eq_zero_or_pos n with h0 | h0
   ·exact h0
   ·obtain⟨b,off,h,_⟩:=HR.out h0
    cases h
  subst h0;go_enter Tryz.func41,Tryz.ntmps41;go_wp2;go_ret
  exact⟨none,0,rfl,Nat.le_refl _,World.ownsRow_nil _ _ _ _,Below.refl _ _⟩
 | some ad=>
  go_enter Tryz.func41,Tryz.ntmps41;go_wp2_with (at_builtin;refine wpList_append_src _ rfl _ _ 35 rfl w.heap.size 5 i0 (.int .u8 0) 1 Tryz.underlying35 hi hz0 hz1 hz2 rfl _ _ _ rfl (owns_empty w 5) w.heap.size (some ad) n c (fun j=>.int .u8 (z j)) rfl (HR.out.alloc (Nat.le_refl _) _) (fun _=>rfl) (by unfold maxLen;omega) (by omega) (by simp) ?_;intro v1 w1 hown1 hg1 hv1);go_ret;obtain⟨g0,c0,rfl,hcap⟩:=own_some_cap hown1 hv1
  exact⟨some ⟨g0,0,none⟩,c0,by simp,by omega,by simpa using hown1,copy_below hg1⟩
theorem own_map_row {w:World} {base e n:Nat} {A:Option Addr} {c:Nat} {f:Nat->Value} (h:w.ownsRow base e 1 (.slice A n c) n ((List.range n).map f)):Fresh base A/\Row w w.heap.size A n f:=by
 obtain⟨A',c',hv,_,_,hf,hr⟩:=own_any (f:=f) h (fun j hj=>by simp[hj])
 cases hv
 exact⟨hf,hr⟩
theorem clone_any (A:Option Addr) (n c:Nat) (z:Nat->Int) (w:World) (hn:n<=140737488355328) (hr:Row w w.heap.size A n (fun j=>.int .u8 (z j))) :
  Calls Tryz.prog 41 #[.slice A n c] w fun e w'=>∃A2 c2,e=.returned (.slice A2 n c2)/\n<=c2/\Row w' w'.heap.size A2 n (fun j=>.int .u8 (z j))/\Fresh w.heap.size A2/\Below w.heap.size w w':=
 (clone_own A n c z w hn hr).mono fun _ _ ⟨A2,c2,he,hc,ho,hb⟩=>⟨A2,c2,he,hc,(own_map_row ho).2,(own_map_row ho).1,hb⟩
end Go.Proofs.YtnadmdadcpemnaaGreat

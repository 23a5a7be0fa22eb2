import Derived.Test.YtnadmdadcpemnaaGreatRows
import Derived.WalkKit
import Derived.Laws.OwnMore
import Derived.Deep.Draws
import Derived.Lib.Hide
namespace Go.Proofs.YtnadmdadcpemnaaGreat
set_option linter.unusedVariables false
set_option linter.unusedSimpArgs false
open Go.RowKit
theorem ret_bool {a b:Bool} (h:a=b):Ending.returned (.bool a)=Ending.returned (.bool b):=by rw[h]
theorem ret_int {k:IntKind} {a b:Int} (h:a=b):Ending.returned (.int k a)=Ending.returned (.int k b):=by rw[h]
def Row (w:World) (B:Nat) (A:Option Addr) (n:Nat) (v:Nat->Value):Prop:=
 0 < n->∃b off,A=some ⟨b,off,none⟩/\b < B/\∀j,j < n->w.cell? ⟨b,off+j,none⟩=some (v j)
section
variable {w w':World} {B B' n:Nat} {A:Option Addr} {v v':Nat->Value}
theorem Row.nil:Row w B A 0 v:=fun h=>absurd h (by omega)
theorem Row.keep (h:Row w B A n v) (hk:∀p:Addr,p.block < B->w'.cell? p=w.cell? p):Row w' B A n v:=fun hn=>by
 obtain⟨b,off,e,hb,hc⟩:=h hn
 exact⟨b,off,e,hb,fun j hj=>(hk _ hb).trans (hc j hj)⟩
theorem Row.more (h:Row w B A n v) (hB:B<=B'):Row w B' A n v:=fun hn=>by
 obtain⟨b,off,e,hb,hc⟩:=h hn
 exact⟨b,off,e,by omega,hc⟩
theorem Row.below (h:Row w B A n v) (hb:Below B w w'):Row w' B A n v:=h.keep fun _ hp=>hb.cell hp
theorem Row.next (h:Row w w.heap.size A n v) (hb:Below w.heap.size w w'):Row w' w'.heap.size A n v:=(h.below hb).more hb.size
theorem Row.alloc (h:Row w B A n v) (hB:B<=w.heap.size) (o:Obj):Row (w.alloc o) B A n v:=h.keep fun p hp=>World.cell?_alloc_lt w o p (by omega)
end
def Blk (w:World) (g:Nat) (t:TypeId) (cs:Array Value):Prop:=w.heap[g]? = some (.cells cs t (0,0))
section
variable {w w':World} {g:Nat} {t:TypeId} {cs:Array Value}
theorem Blk.lt (h:Blk w g t cs):g < w.heap.size:=by
 rcases Nat.lt_or_ge g w.heap.size with hlt | hge
 ·exact hlt
 ·unfold Blk at h;rw[Array.getElem?_eq_none hge]at h;cases h
theorem Blk.cell (h:Blk w g t cs) (i:Nat):w.cell? ⟨g,i,none⟩=cs[i]?:=cell_of_row w g i cs t (0,0) h
theorem Blk.frozen (h:Blk w g t cs) (i:Nat):w.frozen? ⟨g,i,none⟩=false:=by
 unfold Blk at h;simp[World.frozen?,h]
theorem Blk.new (w:World) (t:TypeId) (cs:Array Value):Blk (w.alloc (.cells cs t)) w.heap.size t cs:=heap_alloc_new w _
theorem Blk.drew (h:Blk w g t cs):Blk w.drew g t cs:=h
theorem Blk.drewN (h:Blk w g t cs) (n:Nat):Blk (w.drewN n) g t cs:=h
theorem Blk.alloc (h:Blk w g t cs) (o:Obj):Blk (w.alloc o) g t cs:=(Below.heap_alloc w o g h.lt).trans h
theorem Blk.set_ (h:Blk w g t cs) (i:Nat) (u:Value):Blk (w.setCell ⟨g,i,none⟩ u) g t (cs.setIfInBounds i u):=by
 unfold Blk at h ⊢;simp[World.setCell,Array.getElem?_modify,h]
theorem Blk.far (h:Blk w g t cs) {p:Addr} (hp:g ≠ p.block) (u:Value):Blk (w.setCell p u) g t cs:=(Below.heap_setCell w p u g hp).trans h
theorem Blk.below {B:Nat} (h:Blk w g t cs) (hb:Below B w w') (hg:g < B):Blk w' g t cs:=(hb.block g hg).trans h
end
theorem below_drewN {B:Nat} {a w:World} (h:Below B a w) (n:Nat):Below B a (w.drewN n):=⟨h.os,h.tape,h.output,h.size,h.block⟩
theorem zh {p:Prop} (h:p):Go.RowKit.Hid p:=h
theorem qa {α:Type} (l:List α) (i:Nat) (a:α):l.toArray.setIfInBounds i a=(l.set i a).toArray:=List.setIfInBounds_toArray ..
theorem qb {α:Type} {a b:α} {l:List α}:(a :: l).set 0 b=b :: l:=rfl
theorem qc {α:Type} {a b:α} {l:List α} {n:Nat}:(a :: l).set (n+1) b=a :: l.set n b:=rfl
theorem bnA {w:World} (o:Obj):Below w.heap.size w (w.alloc o):=(Below.refl _ _).alloc (Nat.le_refl _) _
end Go.Proofs.YtnadmdadcpemnaaGreat

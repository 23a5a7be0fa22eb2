import Derived.Test.YtiiojpnckbglcaaGreatRows
import Derived.WalkKit
import Derived.Laws.OwnMore
import Derived.Deep.Draws
import Derived.Lib.Hide
set_option linter.unusedVariables false
set_option linter.unusedSimpArgs false
namespace Go.Proofs.YtiiojpnckbglcaaGreat
open Go.RowKit
theorem ak {a b:Bool} (h:a=b):Ending.returned (.bool a)=Ending.returned (.bool b):=by rw[h]
theorem eY {k:IntKind} {a b:Int} (h:a=b):Ending.returned (.int k a)=Ending.returned (.int k b):=by rw[h]
def au (w:World) (B:Nat) (A:Option Addr) (n:Nat) (v:Nat->Value):Prop:=
 0 < n->∃b off,A=some ⟨b,off,none⟩/\b < B/\∀j,j < n->w.cell? ⟨b,off+j,none⟩=some (v j)
section
variable {w w':World} {B B' n:Nat} {A:Option Addr} {v v':Nat->Value}
theorem au.nil:au w B A 0 v:=fun h=>absurd h (by omega)
theorem au.keep (h:au w B A n v) (hk:∀p:Addr,p.block < B->w'.cell? p=w.cell? p):au w' B A n v:=fun hn=>by
 obtain⟨b,off,e,hb,hc⟩:=h hn
 exact⟨b,off,e,hb,fun j hj=>(hk _ hb).trans (hc j hj)⟩
theorem au.more (h:au w B A n v) (hB:B<=B'):au w B' A n v:=fun hn=>by
 obtain⟨b,off,e,hb,hc⟩:=h hn
 exact⟨b,off,e,by omega,hc⟩
theorem au.below (h:au w B A n v) (hb:Below B w w'):au w' B A n v:=h.keep fun _ hp=>hb.cell hp
theorem au.next (h:au w w.heap.size A n v) (hb:Below w.heap.size w w'):au w' w'.heap.size A n v:=(h.below hb).more hb.size
theorem au.drew (h:au w B A n v):au w.drew B A n v:=h
theorem au.alloc (h:au w B A n v) (hB:B<=w.heap.size) (o:Obj):au (w.alloc o) B A n v:=h.keep fun p hp=>World.cell?_alloc_lt w o p (by omega)
theorem au.setCell (h:au w B A n v) {p:Addr} (hB:B<=p.block) (u:Value):au (w.setCell p u) B A n v:=
 h.keep fun q hq=>World.cell?_setCell_other w p q u (fun e=>by subst e;omega)
theorem au.congr (h:au w B A n v) (e:∀j,j < n->v j=v' j):au w B A n v':=fun hn=>by
 obtain⟨b,off,e1,hb,hc⟩:=h hn
 exact⟨b,off,e1,hb,fun j hj=>by rw[hc j hj,e j hj]⟩
theorem au.take (h:au w B A n v) {m:Nat} (hm:m<=n):au w B A m v:=fun hn=>by
 obtain⟨b,off,e,hb,hc⟩:=h (by omega)
 exact⟨b,off,e,hb,fun j hj=>hc j (by omega)⟩
end
def ae (w:World) (g:Nat) (t:TypeId) (cs:Array Value):Prop:=w.heap[g]? = some (.cells cs t (0,0))
section
variable {w w':World} {g:Nat} {t:TypeId} {cs:Array Value}
theorem ae.lt (h:ae w g t cs):g < w.heap.size:=by
 rcases Nat.lt_or_ge g w.heap.size with hlt | hge
 ·exact hlt
 ·unfold ae at h;rw[Array.getElem?_eq_none hge]at h;cases h
theorem ae.cell (h:ae w g t cs) (i:Nat):w.cell? ⟨g,i,none⟩=cs[i]?:=cell_of_row w g i cs t (0,0) h
theorem ae.frozen (h:ae w g t cs) (i:Nat):w.frozen? ⟨g,i,none⟩=false:=by
 unfold ae at h;simp[World.frozen?,h]
theorem ae.new (w:World) (t:TypeId) (cs:Array Value):ae (w.alloc (.cells cs t)) w.heap.size t cs:=heap_alloc_new w _
theorem ae.drew (h:ae w g t cs):ae w.drew g t cs:=h
theorem ae.alloc (h:ae w g t cs) (o:Obj):ae (w.alloc o) g t cs:=(Below.heap_alloc w o g h.lt).trans h
theorem ae.set_ (h:ae w g t cs) (i:Nat) (u:Value):ae (w.setCell ⟨g,i,none⟩ u) g t (cs.setIfInBounds i u):=by
 unfold ae at h ⊢;simp[World.setCell,Array.getElem?_modify,h]
theorem ae.far (h:ae w g t cs) {p:Addr} (hp:g ≠ p.block) (u:Value):ae (w.setCell p u) g t cs:=(Below.heap_setCell w p u g hp).trans h
theorem ae.below {B:Nat} (h:ae w g t cs) (hb:Below B w w') (hg:g < B):ae w' g t cs:=(hb.block g hg).trans h
theorem ae.grown {row:Option Nat} (h:ae w g t cs) (hb:w.grownBy w' row) (hg:some g ≠ row):ae w' g t cs:=(hb.block g h.lt hg).trans h
end
theorem aE {B:Nat} {a w:World} (h:Below B a w) (n:Nat):Below B a (w.drewN n):=⟨h.os,h.tape,h.output,h.size,h.block⟩
theorem zh {p:Prop} (h:p):Go.RowKit.Hid p:=h
theorem qa {α:Type} (l:List α) (i:Nat) (a:α):l.toArray.setIfInBounds i a=(l.set i a).toArray:=List.setIfInBounds_toArray ..
theorem qb {α:Type} {a b:α} {l:List α}:(a :: l).set 0 b=b :: l:=rfl
theorem qc {α:Type} {a b:α} {l:List α} {n:Nat}:(a :: l).set (n+1) b=a :: l.set n b:=rfl
theorem bM {w:World} (o:Obj):Below w.heap.size w (w.alloc o):=(Below.refl _ _).alloc (Nat.le_refl _) _
theorem af {α : Sort _} (a : α) : ∃ x, x = a := ⟨a, rfl⟩
theorem ao {a : Nat} : a ≤ a := Nat.le_refl a
theorem bg {a b c : Nat} (h : a < b) (h2 : b ≤ c) : a < c := Nat.lt_of_lt_of_le h h2
theorem ba {a b c : Nat} (h : a ≤ b) (h2 : b ≤ c) : a ≤ c := Nat.le_trans h h2
end Go.Proofs.YtiiojpnckbglcaaGreat

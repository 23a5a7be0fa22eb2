/- Regions that draw their order, whose operations read and whose callees make memory at most: one walk in the text's order. -/
import Derived.Test.YtejadoadpgcpjaaGB
namespace Go.Proofs.Ytejadoadpgcpjaa
open Go.RowKit

/-- a world that has W's blocks unchanged -/
structure ExtW (W : World) where
  v : World
  h : Below W.heap.size W v
instance ExtW.inh (W : World) : Nonempty (ExtW W) := ⟨⟨W, Below.refl _ _⟩⟩
theorem ExtW.cell {W : World} (e : ExtW W) {p : Addr} {x : Value} (hc : W.cell? p = some x) (hp : p.block < W.heap.size) : e.v.cell? p = some x := (e.h.cell hp).trans hc
def ExtW.next {W : World} (e : ExtW W) {w' : World} (h : Below e.v.heap.size e.v w') : ExtW W := ⟨w', e.h.trans (h.mono e.h.size)⟩
theorem wp_region_ext {P : Program} {id : Nat} {Q : Exit → Act → World → Prop} {a : Act} {w : World} {l : List Oper} (hm : P.follows .mixedOrders = true) (hB : Region.lexB .any l.toArray = true)
    (h : wpQuiet P l.toArray (fun w' => ∃ e : ExtW w, w' = e.v) (fun a' => ∀ w', (∃ e : ExtW w, w' = e.v) → Q .normal a' w') l a) : (Code.region id l.toArray true).wp P Q a w :=
  wp_region_quiet (C := fun w' => ∃ e : ExtW w, w' = e.v) hm hB ⟨⟨w.drew, (Below.refl _ w).drew⟩, rfl⟩ (by simpa using h)
/-- a callee's contract among them -/
theorem Calls.ext_of {P : Program} {f : FuncId} {args : Array Value} {W : World} {e : ExtW W} {v : Value} (h : Calls P f args e.v fun en w' => en = .returned v ∧ Below e.v.heap.size e.v w') : Calls P f args e.v fun en w'' => en = .returned v ∧ ∃ e' : ExtW W, w'' = e'.v :=
  h.mono fun _ _ ⟨h1, h2⟩ => ⟨h1, e.next h2, rfl⟩
end Go.Proofs.Ytejadoadpgcpjaa

import Derived.Test.YtiiojpnckbglcaaGreatUs
import Derived.Deep.RegionHeld3
import Derived.Laws.Rows
import Derived.Deep.DrawnRows
set_option linter.unusedVariables false
set_option linter.unusedSimpArgs false
namespace Go.Proofs.YtiiojpnckbglcaaGreat
open Go.RowKit
theorem ae.setRow {w:World} {g:Nat} {t:TypeId} {cs ds:Array Value} (h:ae w g t cs):ae (w.setRow g ds) g t ds:=setRow_heap w g cs ds t (0,0) h
theorem ae.farRow {w:World} {g k:Nat} {t:TypeId} {cs ds:Array Value} (h:ae w g t cs) (hne:g ≠ k):ae (w.setRow k ds) g t cs:=(setRow_other w k g ds hne).trans h
theorem aj {b:Nat} {w0 w:World} (h:Below b w0 w) {g:Nat} (hg:b<=g) (cs:Array Value):Below b w0 (w.setRow g cs):=
 ⟨h.os,h.tape,h.output,by rw[size_setRow];exact h.size,fun i hi=>(setRow_other w g i cs (by omega)).trans (h.block i hi)⟩
end Go.Proofs.YtiiojpnckbglcaaGreat

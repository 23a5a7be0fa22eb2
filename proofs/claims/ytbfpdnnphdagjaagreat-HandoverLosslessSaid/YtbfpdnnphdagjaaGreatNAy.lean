import Derived.Test.YtbfpdnnphdagjaaGreatUy
import Derived.Deep.RegionHeld3
import Derived.Laws.Rows
import Derived.Deep.DrawnRows
import Derived.Deep.RegionWith
import Derived.Deep.DeepCutAuto
import Derived.Deep.CutRange
import Derived.Deep.CutBlock
import Derived.BigQuiet
set_option linter.unusedVariables false
set_option linter.unusedSimpArgs false
namespace Go.Proofs.YtbfpdnnphdagjaaGreat
open Go.RowKit
attribute [local go_sem ↓] Go.wp_at_zero Go.wp_at_succ
def lZ:Array Value:=#[.int .i64 0,.int .i64 0,.int .u8 0,.int .u8 0,.int .u8 0,.int .u8 0,.int .u8 0,.int .u8 0,.int .u8 0,.int .u8 0,.int .u8 0,.int .u8 0,.int .u8 0,.int .u8 0,.int .u8 0,.int .u8 0,.int .u8 0,.int .u8 0,.int .u8 0,.int .u8 0,.int .u8 0,.int .u8 0,.int .u8 0,.int .u8 0,.int .u8 0,.int .u8 0,.int .u8 0,.int .u8 0,.int .u8 0,.int .u8 0,.int .u8 0,.int .u8 0,.int .u8 0,.int .u8 0,.bool false,.bool false,.bool false,.int .i64 0,.int .i64 0]
theorem bj {P:Program} {fn:Func} {p q:Tmp} {ty:TypeId} (h:fn.results=#[.cell p ty,.tmp q]) (tmps:Array Value) (w:World) (g:Nat) (t:TypeId) (cs:Array Value) (fr:Nat×Nat) (d:TypeDesc)
  (hp:tmps.getD p undef=.pointer (some ⟨g,0,none⟩)) (hg:w.heap[g]? = some (.cells cs t fr))
  (hu:P.underlying ty=some d) (hd:(match d with | .struct _ | .array _ _=>true | _=>false)=true) (hi:(P.info? ty).map (·.size)=some cs.size) (u:Value) (hq:tmps.getD q undef=u) :
  (results fn tmps).run P w=.ok (.tuple #[.agg cs,u]) w:=by
 subst hq;have hp':tmps[p]?.getD undef=.pointer (some ⟨g,0,none⟩):=by simpa using hp
 simp[results,h,hp',asAddr,run_loadVar_row w g t ty cs fr d hg hu hd hi]
theorem ae.setRow {w:World} {g:Nat} {t:TypeId} {cs ds:Array Value} (h:ae w g t cs):ae (w.setRow g ds) g t ds:=setRow_heap w g cs ds t (0,0) h
theorem ae.farRow {w:World} {g k:Nat} {t:TypeId} {cs ds:Array Value} (h:ae w g t cs) (hne:g ≠ k):ae (w.setRow k ds) g t cs:=(setRow_other w k g ds hne).trans h
theorem al {b:Nat} {w0 w:World} (h:Below b w0 w) {g:Nat} (hg:b<=g) (cs:Array Value):Below b w0 (w.setRow g cs):=
 ⟨h.os,h.tape,h.output,by rw[size_setRow];exact h.size,fun i hi=>(setRow_other w g i cs (by omega)).trans (h.block i hi)⟩
section
variable {w w':World} {g:Nat} {t:TypeId} {cs:Array Value}
theorem ae.range {w:World} {g:Nat} {t:TypeId} {cs:Array Value} (h:ae w g t cs) (vs:List Value) (hv:cs=vs.toArray):w.rangeAt g 0 vs:=fun j v hj=>by
 rw[Nat.zero_add,h.cell j,hv];simpa using hj
end
end Go.Proofs.YtbfpdnnphdagjaaGreat

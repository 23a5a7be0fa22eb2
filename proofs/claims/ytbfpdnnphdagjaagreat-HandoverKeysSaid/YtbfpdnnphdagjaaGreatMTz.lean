import Derived.Test.YtbfpdnnphdagjaaGreatMSz
import Derived.Deep.RegionHeld3
import Derived.Laws.BitsAllLaws
set_option linter.unusedVariables false
set_option linter.unusedSimpArgs false
namespace Go.Proofs.YtbfpdnnphdagjaaGreat
open Go.RowKit Go.Shelf
attribute [local go_sem] Oper.semAt_some
theorem wy (x0 x1 x2 x3:Nat) (h0:x0 < 256) (h1:x1 < 256) (h2:x2 < 256) (h3:x3 < 256) :
  bits BinOp.or .u32 (bits BinOp.or .u32 (bits BinOp.or .u32 (IntKind.u32.wrap (IntKind.u32.wrap (x0:Int)*16777216)) (IntKind.u32.wrap (IntKind.u32.wrap (x1:Int)*65536))) (IntKind.u32.wrap (IntKind.u32.wrap (x2:Int)*256))) (IntKind.u32.wrap (x3:Int))=((((x0*256+x1)*256+x2)*256+x3:Nat):Int):=by
 have w0:IntKind.u32.wrap (IntKind.u32.wrap (x0:Int)*16777216)=((x0*2 ^ 24:Nat):Int):=by simp[IntKind.wrap_u32];omega
 have w1:IntKind.u32.wrap (IntKind.u32.wrap (x1:Int)*65536)=((x1*2 ^ 16:Nat):Int):=by simp[IntKind.wrap_u32];omega
 have w2:IntKind.u32.wrap (IntKind.u32.wrap (x2:Int)*256)=((x2*2 ^ 8:Nat):Int):=by simp[IntKind.wrap_u32];omega
 have w3:IntKind.u32.wrap (x3:Int)=((x3:Nat):Int):=by simp[IntKind.wrap_u32];omega
 rw[w0,w1,w2,w3];rw[u32_or_nat _ _ (by omega) (by omega),eU _ _ _ (by omega)];rw[show x0*2 ^ 24+x1*2 ^ 16=(x0*2 ^ 8+x1)*2 ^ 16 by omega];rw[u32_or_nat _ _ (by omega) (by omega),eU _ _ _ (by omega)];rw[show(x0*2 ^ 8+x1)*2 ^ 16+x2*2 ^ 8=((x0*2 ^ 8+x1)*2 ^ 8+x2)*2 ^ 8 by omega];rw[u32_or_nat _ _ (by omega) (by omega),eU _ _ _ (by omega)]
theorem vl (lb lo m c:Nat) (h4:4<=m) (hmc:m<=c):∃lo4,(∀w,(Instr.slice 41 (.slice (some ⟨lb,lo,none⟩) m c) (some (.int .i64 4)) none none).run Tryz.prog w=.ok (.slice (some ⟨lb,lo4,none⟩) (m-4) (c-4)) w)/\(4 < m->lo4=lo+4):=by
 have hm0:(4:Int)<=(m:Int):=by omega
 by_cases hc:c=4
 ·subst hc
  exact⟨lo,fun w=>by simp[go_sem,hm0],fun h=>by omega⟩
 ·exact⟨lo+4,fun w=>by simp[go_sem,hm0,hc],fun _=>rfl⟩
theorem dD {w:World} {g D:Nat} (hne:D ≠ g) {o:Obj} (h:w.heap[D]? = some o) (a b c d:Value):((((w.setCell ⟨g,0,none⟩ a).setCell ⟨g,1,none⟩ b).setCell ⟨g,2,none⟩ c).setCell ⟨g,3,none⟩ d).heap[D]? = some o:=by
 rw[Below.heap_setCell _ _ _ D hne,Below.heap_setCell _ _ _ D hne,Below.heap_setCell _ _ _ D hne,Below.heap_setCell _ _ _ D hne];exact h
theorem q9 (A:Option Addr) (q c:Nat) (w:World) :
  Calls Tryz.prog 61 #[.slice A q c] w fun e w'=>e=.returned (.func (.func 85) #[] #[.pointer (some ⟨w.heap.size,0,none⟩)])/\w.alloc (.cells #[.slice A q c] 41)=w':=by
 go_enter Tryz.func61,Tryz.ntmps61;go_wp2;go_ret
 exact⟨rfl,rfl⟩
end Go.Proofs.YtbfpdnnphdagjaaGreat

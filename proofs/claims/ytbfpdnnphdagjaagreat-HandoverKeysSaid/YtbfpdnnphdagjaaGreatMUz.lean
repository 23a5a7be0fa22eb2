import Derived.Test.YtbfpdnnphdagjaaGreatMTz
import Derived.Maps.OwnSet
set_option linter.unusedVariables false
set_option linter.unusedSimpArgs false
namespace Go.Proofs.YtbfpdnnphdagjaaGreat
open Go.RowKit
def pj:Array MapEntry:=#[{ key:=.int .u8 0,val:=.func (.func 38) #[] #[],born:=0 }]
def jD:Array MapEntry:=#[{ key:=.int .u8 0,val:=.func (.func 38) #[] #[],born:=0 },{ key:=.int .u8 16,val:=.func (.func 39) #[] #[],born:=1 }]
theorem mn (W:World) (r:Nat) (es:Array MapEntry) (c:Nat) (x:Int) (v:Value) (hb:W.heap[r]? = some (.map es c)) (hf:Instr.findNow (.int .u8) (.int .u8 x) es.toList 0=some none) :
  (Instr.mapUpdate 101 (.map (some r)) (.int .u8 x) v).run Tryz.prog W=.ok () { W with heap:=W.heap.setIfInBounds r (.map (es.push { key:=.int .u8 x,val:=v,born:=c }) (c+1)) }:=by
 have hc:∀e:Bool,(Instr.checkKey e 10000 5 (.int .u8 x)).run Tryz.prog W=.ok () W:=fun e=>MapKept.run_checkKey (k:=.int .u8 x) Tryz.underlying5 (by simp[MapKept.IsKey]) e 9999;simp[Instr.mapUpdate,run_underlying Tryz.underlying101,MapKept.run_getObj_map hb,hc,MapKept.run_findKey Tryz.underlying5 hf,MapKept.run_setObj_map _ hb,Result.andThen]
theorem ji (W:World) (r:Nat) (es:Array MapEntry) (c:Nat) (x:Int) (a:Option (Nat×Value)) (hb:W.heap[r]? = some (.map es c)) (hf:Instr.findNow (.int .u8) (.int .u8 x) es.toList 0=some a) :
  (Instr.lookup 101 (.map (some r)) (.int .u8 x) true).run Tryz.prog W=.ok (match a with | some (_,v)=>.tuple #[v,.bool true] | none=>.tuple #[.nilFunc,.bool false]) W:=by
 have hc:∀e:Bool,(Instr.checkKey e 10000 5 (.int .u8 x)).run Tryz.prog W=.ok () W:=fun e=>MapKept.run_checkKey (k:=.int .u8 x) Tryz.underlying5 (by simp[MapKept.IsKey]) e 9999;have hz:∀W,(zeroValue 64).run Tryz.prog W=.ok .nilFunc W:=fun W=>by kernel_rfl
 rcases a with _ | ⟨i,v⟩<;>simp[Instr.lookup,run_underlying Tryz.underlying101,MapKept.run_getObj_map hb,hc,MapKept.run_findKey Tryz.underlying5 hf,hz,Result.andThen]
theorem oH (W:World):∃X1 X2,(Instr.mapUpdate 101 (.map (some W.heap.size)) (.int .u8 0) (.func (.func 38) #[] #[])).run Tryz.prog (W.alloc (.map #[] 0))=.ok () X1/\
  (Instr.mapUpdate 101 (.map (some W.heap.size)) (.int .u8 16) (.func (.func 39) #[] #[])).run Tryz.prog X1=.ok () X2/\Below W.heap.size W X2/\X2.heap[W.heap.size]? = some (.map jD 2):=by
 have h1:=mn (W.alloc (.map #[] 0)) W.heap.size #[] 0 0 (.func (.func 38) #[] #[]) (World.alloc_heap_new W _) rfl;have h2:=mn ((W.alloc (.map #[] 0)).putObj W.heap.size (.map pj 1)) W.heap.size pj 1 16 (.func (.func 39) #[] #[]) (World.putObj_heap_same (by simp)) rfl;refine⟨_,_,h1,h2,?_,World.putObj_heap_same (w:=(W.alloc (.map #[] 0)).putObj W.heap.size (.map pj 1)) (o:=.map jD 2) (by simp)⟩
 exact(((Below.refl _ W).alloc ay _).grown (grownBy_putObj' _ W.heap.size (.map pj 1)) (by simp) (fun k e=>by cases e;exact Nat.le_refl _)).grown (grownBy_putObj' _ W.heap.size (.map jD 2)) (by simp) (fun k e=>by cases e;exact Nat.le_refl _)
theorem vp (lb lo m c:Nat) (h1:1<=m) (hmc:m<=c):∃lo1,(∀w,(Instr.slice 41 (.slice (some ⟨lb,lo,none⟩) m c) (some (.int .i64 1)) none none).run Tryz.prog w=.ok (.slice (some ⟨lb,lo1,none⟩) (m-1) (c-1)) w)/\(1 < m->lo1=lo+1):=by
 have hm0:(1:Int)<=(m:Int):=by omega
 by_cases hc:c=1
 ·subst hc
  exact⟨lo,fun w=>by simp[go_sem,hm0],fun h=>by omega⟩
 ·exact⟨lo+1,fun w=>by simp[go_sem,hm0,hc],fun _=>rfl⟩
end Go.Proofs.YtbfpdnnphdagjaaGreat

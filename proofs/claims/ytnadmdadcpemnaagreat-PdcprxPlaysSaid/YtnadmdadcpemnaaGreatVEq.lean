import Derived.Test.YtnadmdadcpemnaaGreatVCq
namespace Go.Proofs.YtnadmdadcpemnaaGreat
set_option linter.unusedVariables false
set_option linter.unusedSimpArgs false
open Go.RowKit
theorem idx_arr {P:Program} (t e:TypeId) (len:Nat) (ht:P.underlying t=some (.array len e)) (i:TypeInfo) (hi:P.info? e=some i) (hs:i.size=1) (k:IntKind) (hd:P.underlying e=some (.int k)) (cs:Array Value) (j:Nat) (hj:j < len) (v:Value) (hv:cs[j]? = some v) (w:World):(Instr.index t (.agg cs) (.int .i64 j)).run P w=.ok v w:=by
 have h1:(0:Int)<=(j:Int)/\(j:Int) < (len:Int):=by omega
 simp[Instr.index,asIntOf,run_underlying ht,sizeOf,typeInfo,hi,hs,hj,part,isAgg,run_underlying hd,hv]
theorem infoU8:∃i:TypeInfo,Tryz.prog.info? 5 = some i/\i.size=1:=by
 have h:(Tryz.prog.info? 5).map (·.size)=some 1:=by kernel_rfl
 cases hi:Tryz.prog.info? 5 with
 | none=>rw[hi]at h;cases h
 | some i=>rw[hi]at h;exact⟨i,rfl,by simpa using h⟩
end Go.Proofs.YtnadmdadcpemnaaGreat

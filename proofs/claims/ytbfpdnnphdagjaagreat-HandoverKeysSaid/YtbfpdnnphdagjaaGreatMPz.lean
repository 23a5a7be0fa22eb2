import Derived.Test.YtbfpdnnphdagjaaGreatMKz
set_option linter.unusedVariables false
set_option linter.unusedSimpArgs false
namespace Go.Proofs.YtbfpdnnphdagjaaGreat
open Go.RowKit
def fu (z:Nat->Int):Nat->Int
 | 0=>0
 | r+1=>256*fu z r+z r
theorem Tryz.infoBool:(Tryz.prog.info? 4).map (fun i=>(i.zero,i.size,i.bytes))=some (some (.bool false),1,1):=by kernel_rfl
def tA (z:Nat->Int) (j:Nat):Int:=z (4+j)
def ks (m:Nat) (z:Nat->Int):Nat:=ax (cE (tA z)) (8*(m-4))
def dg (m:Nat) (z:Nat->Int):Int:=if m < 4 then 5 else if 260 < m then 4 else if 2047 < ks m z then 4 else if 4 < m/\z (m-1)=0 then 9 else 0
theorem ae.four {w:World} {g:Nat} {t:TypeId} {a b c d:Value} (h:ae w g t #[a,b,c,d]) :
  w.cell? ⟨g,0,none⟩=some a/\w.cell? ⟨g,1,none⟩=some b/\w.cell? ⟨g,2,none⟩=some c/\w.cell? ⟨g,3,none⟩=some d/\w.frozen? ⟨g,0,none⟩=false/\w.frozen? ⟨g,1,none⟩=false/\w.frozen? ⟨g,2,none⟩=false/\w.frozen? ⟨g,3,none⟩=false:=
 ⟨h.cell 0,h.cell 1,h.cell 2,h.cell 3,h.frozen 0,h.frozen 1,h.frozen 2,h.frozen 3⟩
end Go.Proofs.YtbfpdnnphdagjaaGreat

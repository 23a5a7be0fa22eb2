import Derived.Test.YtbfpdnnphdagjaaGreatUy
import Derived.Test.YtbfpdnnphdagjaaGreatAppy
import Derived.Test.YtbfpdnnphdagjaaGreatStry
import Derived.Test.YtbfpdnnphdagjaaGreatHNy
import Derived.BigGuardPart
import Derived.BigQuiet
import Derived.Deep.DeepFit
import Derived.Deep.OwnRows
import Derived.Deep.QuietTactic
import Derived.Handy
import Derived.KernelRfl
import Derived.ScopeJumps
import Derived.WalkLawsBesides
import Derived.WalkMore
import Derived.WalkSpells
import Derived.RegionTactic
import Derived.ChangeAlike
set_option linter.unusedVariables false
set_option linter.unusedSimpArgs false
namespace Go.Proofs.YtbfpdnnphdagjaaGreat
open Go.RowKit
def eb (first:Nat) (b:Nat->Bool) (i j:Nat):Int:=if j=0 then 0 else if j < 5 then ((first / 2 ^ (8*(4-j)) % 256:Nat):Int) else ((bu b i (j-5):Nat):Int)
def cI (first:Nat) (b:Nat->Bool) (i m:Nat):List Value:=(List.range m).map (fun j=>.int .u8 (eb first b i j))
theorem fB (first:Nat) (b:Nat->Bool) (i m:Nat):(cI first b i m).length=m:=by simp[cI]
theorem fd (first:Nat) (b:Nat->Bool) (i m j:Nat) (h:j < m):(cI first b i m)[j]? = some (.int .u8 (eb first b i j)):=by simp[cI,h]
theorem pS (first:Nat) (b:Nat->Bool) (i m:Nat) (h5:5<=m) (h:aq b i<=8*(m-5)):cI first b i (m+1)=cI first b i m++[.int .u8 0]:=by
 unfold cI;rw[List.range_succ,List.map_append,List.map_singleton];have:eb first b i m=0:=by
  unfold eb;rw[if_neg (by omega),if_neg (by omega),kQ b i _ h];rfl
 rw[this]
theorem py (first:Nat) (b:Nat->Bool) (i m:Nat) (h:b i=false):cI first b (i+1) m=cI first b i m:=by
 unfold cI;refine List.map_congr_left fun j hj=>?_;unfold eb;rw[gZ b i _ h]
theorem q9 (first:Nat) (b:Nat->Bool) (i m:Nat):(cI first b i m).set (5+i / 8) (.int .u8 ((bu b (i+1) (i / 8):Nat):Int))=cI first b (i+1) m:=by
 refine List.ext_getElem? fun j=>?_;rw[List.getElem?_set];by_cases hj:j < m
 ·rw[fd _ _ _ _ _ hj,fB]
  split
  ·rename_i hjj;subst hjj;rw[if_pos hj,fd _ _ (i+1) _ _ hj];unfold eb;rw[if_neg (by omega),if_neg (by omega),Nat.add_sub_cancel_left]
  ·rename_i hjj;rw[fd _ _ _ _ _ hj];unfold eb;by_cases h5:j < 5
   ·simp[h5]
   ·rw[pO b i _ (by omega)]
 ·rw[List.getElem?_eq_none (by rw[fB];omega),List.getElem?_eq_none (by rw[fB];omega),fB]
  split
  ·rename_i hjj;rw[if_neg (by omega)]
  ·rfl
theorem wy (first:Nat) (hf:first < 4294967296) (b:Nat->Bool):cI first b 0 5=[.int .u8 0,.int .u8 ((first:Int) / 16777216),.int .u8 ((first:Int) / 65536 % 256),.int .u8 ((first:Int) / 256 % 256),.int .u8 ((first:Int) % 256)]:=by
 simp[cI,List.range_succ,eb];omega
end Go.Proofs.YtbfpdnnphdagjaaGreat

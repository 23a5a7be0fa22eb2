import Derived.Test.YtbfpdnnphdagjaaGreatUz
import Derived.Test.YtbfpdnnphdagjaaGreatAppz
import Derived.Test.YtbfpdnnphdagjaaGreatStrz
import Derived.Test.YtbfpdnnphdagjaaGreatHNz
import Derived.BigGuardPart
import Derived.BigQuiet
import Derived.Deep.DeepFit
import Derived.Deep.OwnRows
import Derived.Deep.QuietTactic
import Derived.Handy
import Derived.KernelRfl
import Derived.ScopeJumps
import Derived.WalkLawsBesides
import Derived.WalkMore
import Derived.WalkSpells
import Derived.RegionTactic
import Derived.ChangeAlike
set_option linter.unusedVariables false
set_option linter.unusedSimpArgs false
namespace Go.Proofs.YtbfpdnnphdagjaaGreat
open Go.RowKit
def eb (first:Nat) (b:Nat->Bool) (i j:Nat):Int:=if j=0 then 0 else if j < 5 then ((first / 2 ^ (8*(4-j)) % 256:Nat):Int) else ((cw b i (j-5):Nat):Int)
def bV (first:Nat) (b:Nat->Bool) (i m:Nat):List Value:=(List.range m).map (fun j=>.int .u8 (eb first b i j))
theorem eo (first:Nat) (b:Nat->Bool) (i m:Nat):(bV first b i m).length=m:=by simp[bV]
theorem d7 (first:Nat) (b:Nat->Bool) (i m j:Nat) (h:j < m):(bV first b i m)[j]? = some (.int .u8 (eb first b i j)):=by simp[bV,h]
theorem mp (first:Nat) (b:Nat->Bool) (i m:Nat) (h5:5<=m) (h:ax b i<=8*(m-5)):bV first b i (m+1)=bV first b i m++[.int .u8 0]:=by
 unfold bV;rw[List.range_succ,List.map_append,List.map_singleton];have:eb first b i m=0:=by
  unfold eb;rw[if_neg (by omega),if_neg (by omega),i4 b i _ h];rfl
 rw[this]
theorem np (first:Nat) (b:Nat->Bool) (i m:Nat) (h:b i=false):bV first b (i+1) m=bV first b i m:=by
 unfold bV;refine List.map_congr_left fun j hj=>?_;unfold eb;rw[fQ b i _ h]
theorem n4 (first:Nat) (b:Nat->Bool) (i m:Nat):(bV first b i m).set (5+i / 8) (.int .u8 ((cw b (i+1) (i / 8):Nat):Int))=bV first b (i+1) m:=by
 refine List.ext_getElem? fun j=>?_;rw[List.getElem?_set];by_cases hj:j < m
 ·rw[d7 _ _ _ _ _ hj,eo]
  split
  ·rename_i hjj;subst hjj;rw[if_pos hj,d7 _ _ (i+1) _ _ hj];unfold eb;rw[if_neg (by omega),if_neg (by omega),Nat.add_sub_cancel_left]
  ·rename_i hjj;rw[d7 _ _ _ _ _ hj];unfold eb;by_cases h5:j < 5
   ·simp[h5]
   ·rw[m6 b i _ (by omega)]
 ·rw[List.getElem?_eq_none (by rw[eo];omega),List.getElem?_eq_none (by rw[eo];omega),eo]
  split
  ·rename_i hjj;rw[if_neg (by omega)]
  ·rfl
theorem sZ (first:Nat) (hf:first < 4294967296) (b:Nat->Bool):bV first b 0 5=[.int .u8 0,.int .u8 ((first:Int) / 16777216),.int .u8 ((first:Int) / 65536 % 256),.int .u8 ((first:Int) / 256 % 256),.int .u8 ((first:Int) % 256)]:=by
 simp[bV,List.range_succ,eb];omega
end Go.Proofs.YtbfpdnnphdagjaaGreat

import Derived.Test.YtnadmdadcpemnaaGreatVDq
namespace Go.Proofs.YtnadmdadcpemnaaGreat
set_option linter.unusedVariables false
set_option linter.unusedSimpArgs false
open Go.RowKit
def keyArr (K:Nat->Nat->Nat) (p:Nat):Array Value:=Array.ofFn (n:=176) fun c=>.int .u8 ((if c.1 < p then K (c.1 / 16) (c.1 % 16) else 0:Nat):Int)
theorem keyArr_size (K:Nat->Nat->Nat) (p:Nat):(keyArr K p).size=176:=by simp[keyArr]
theorem keyArr_at (K:Nat->Nat->Nat) (p:Nat) {c:Nat} (h:c < 176):(keyArr K p)[c]? = some (.int .u8 ((if c < p then K (c / 16) (c % 16) else 0:Nat):Int)):=by simp[keyArr,h]
theorem keyArr_set (K:Nat->Nat->Nat) (p:Nat) (hp:p < 176):(keyArr K p).setIfInBounds p (.int .u8 (K (p / 16) (p % 16):Nat))=keyArr K (p+1):=by
 apply Array.ext_getElem?;intro j;rw[Array.getElem?_setIfInBounds,keyArr_size];by_cases hj:j < 176
 ·rw[keyArr_at _ _ hj,keyArr_at _ _ hj];by_cases e:p=j
  ·subst e;rw[if_pos rfl,if_pos hp,if_pos (by omega)]
  ·rw[if_neg e];by_cases h2:j < p
   ·rw[if_pos h2,if_pos (by omega)]
   ·rw[if_neg h2,if_neg (by omega)]
 ·rw[if_neg (by omega),Array.getElem?_eq_none (by rw[keyArr_size];omega),Array.getElem?_eq_none (by rw[keyArr_size];omega)]
theorem keyArr_one (K:Nat->Nat->Nat) (p:Nat):(keyArr K p).all (·.oneCell')=true:=by
 rw[Array.all_eq_true];intro i hi;simp only[keyArr,Array.getElem_ofFn]
 rfl
def b16 (b:Nat->Nat):Array Value:=Array.ofFn (n:=16) fun j=>.int .u8 ((b j.1:Nat):Int)
theorem b16_size (b:Nat->Nat):(b16 b).size=16:=by simp[b16]
theorem b16_at (b:Nat->Nat) {j:Nat} (h:j < 16):(b16 b)[j]? = some (.int .u8 ((b j:Nat):Int)):=by simp[b16,h]
theorem b16_one (b:Nat->Nat):(b16 b).all (·.oneCell')=true:=by
 rw[Array.all_eq_true];intro i hi;simp only[b16,Array.getElem_ofFn]
 rfl
theorem b16_set (b:Nat->Nat) (i x:Nat) (hi:i < 16):(b16 b).setIfInBounds i (.int .u8 (x:Int))=b16 (upd b i x):=by
 apply Array.ext_getElem?;intro j;rw[Array.getElem?_setIfInBounds,b16_size];by_cases hj:j < 16
 ·rw[b16_at _ hj,b16_at _ hj];by_cases e:i=j
  ·subst e;rw[if_pos rfl,if_pos hi];simp[upd]
  ·have e2:¬j=i:=fun h=>e h.symm;rw[if_neg e];simp[upd,e2]
 ·rw[if_neg (by omega),Array.getElem?_eq_none (by rw[b16_size];omega),Array.getElem?_eq_none (by rw[b16_size];omega)]
end Go.Proofs.YtnadmdadcpemnaaGreat

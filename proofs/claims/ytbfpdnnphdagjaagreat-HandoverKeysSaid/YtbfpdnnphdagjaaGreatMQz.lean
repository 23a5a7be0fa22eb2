import Derived.Test.YtbfpdnnphdagjaaGreatMPz
set_option linter.unusedVariables false
set_option linter.unusedSimpArgs false
namespace Go.Proofs.YtbfpdnnphdagjaaGreat
open Go.RowKit
def bz (m:Nat) (z:Nat->Int):Int:=if dg m z=0 then fu z 4 else 0
def de (m:Nat) (z:Nat->Int):Nat:=if dg m z=0 then ks m z else 0
theorem az.four_stores {w:World} {A:Option Addr} {n g:Nat} {v:Nat->Value} {t:TypeId} {k f x y k' f' x' y':Value} (h:az w w.heap.size A n v) (hB:ae w g t #[k,f,x,y])
  (hne:∀u j,u∈[k,f,x,y,k',f',x',y']->u ≠ v j) :
  az ((((w.setCell ⟨g,0,none⟩ k').setCell ⟨g,1,none⟩ f').setCell ⟨g,2,none⟩ x').setCell ⟨g,3,none⟩ y') ((((w.setCell ⟨g,0,none⟩ k').setCell ⟨g,1,none⟩ f').setCell ⟨g,2,none⟩ x').setCell ⟨g,3,none⟩ y').heap.size A n v:=by
 have ne:∀a b c d:Value,(∀u,u∈[a,b,c,d]->u∈[k,f,x,y,k',f',x',y'])->∀i:Nat,i < #[a,b,c,d].size->∀j,#[a,b,c,d][i]? ≠ some (v j):=by
  intro a b c d hs i hi j e;have hi4:i < 4:=hi
  match i,hi4 with
  | 0,_=>exact hne a j (hs a (by simp)) (by simpa using e)
  | 1,_=>exact hne b j (hs b (by simp)) (by simpa using e)
  | 2,_=>exact hne c j (hs c (by simp)) (by simpa using e)
  | 3,_=>exact hne d j (hs d (by simp)) (by simpa using e)
 have h1:=h.apart hB (ne _ _ _ _ (by simp_all)) (p:=⟨g,0,none⟩) rfl k';have B1:ae (w.setCell ⟨g,0,none⟩ k') g t #[k',f,x,y]:=hB.set_ 0 k';have h2:=h1.apart B1 (ne _ _ _ _ (by simp_all)) (p:=⟨g,1,none⟩) rfl f';have B2:ae ((w.setCell ⟨g,0,none⟩ k').setCell ⟨g,1,none⟩ f') g t #[k',f',x,y]:=B1.set_ 1 f';have h3:=h2.apart B2 (ne _ _ _ _ (by simp_all)) (p:=⟨g,2,none⟩) rfl x';have B3:ae (((w.setCell ⟨g,0,none⟩ k').setCell ⟨g,1,none⟩ f').setCell ⟨g,2,none⟩ x') g t #[k',f',x',y]:=B2.set_ 2 x'
 exact h3.apart B3 (ne _ _ _ _ (by simp_all)) (p:=⟨g,3,none⟩) rfl y'
def dz (z:Nat->Int) (j:Nat):Int:=z (1+j)
def iy (m:Nat) (z:Nat->Int):Int:=if m=0 then 5 else if z 0=0 then dg (m-1) (dz z) else if z 0=16 then (if m=1 then 5 else 0) else 9
def eT (m:Nat) (z:Nat->Int):Int:=if 1 < m/\z 0=16 then 1 else 0
def dA (m:Nat) (z:Nat->Int):Int:=if 0 < m/\z 0=0 then bz (m-1) (dz z) else 0
def gP (m:Nat) (z:Nat->Int):Nat:=if 0 < m/\z 0=0 then de (m-1) (dz z) else 0
def ei (m:Nat) (z:Nat->Int):Nat:=if 1 < m/\z 0=16 then m-1 else 0
def o8 (m:Nat) (z:Nat->Int) (w:World) (e:Ending) (w':World):Prop:=
 ∃A c B d,e=.returned (.tuple #[.agg (oR (eT m z) (dA m z) A (gP m z) c B (ei m z) d),.int .i64 (iy m z)])/\az w' w'.heap.size A (gP m z) (fun j=>.bool (cE (tA (dz z)) j))/\az w' w'.heap.size B (ei m z) (fun j=>.int .u8 (dz z j))/\Below w.heap.size w w'
end Go.Proofs.YtbfpdnnphdagjaaGreat

import Derived.Test.YtnadmdadcpemnaaGreatWq
namespace Go.Proofs.YtnadmdadcpemnaaGreat
set_option linter.unusedVariables false
set_option linter.unusedSimpArgs false
def hb (z:Nat->Int) (j:Nat):Bool:=(z (j / 8)).toNat / 2 ^ (7-j % 8) % 2 == 1
def last (b:Nat->Bool):Nat->Nat
 | 0=>0
 | n+1=>if b n then n+1 else last b n
def pk (b:Nat->Bool):Nat->Nat->Nat
 | 0,_=>0
 | i+1,j=>pk b i j+if i / 8=j/\b i=true then 2 ^ (7-i % 8) else 0
end Go.Proofs.YtnadmdadcpemnaaGreat

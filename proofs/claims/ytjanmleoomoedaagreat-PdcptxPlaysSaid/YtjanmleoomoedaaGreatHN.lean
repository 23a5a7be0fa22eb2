/- Handover's plain mathematics: bits of bytes, the last set bit, packed bits; no program in sight. -/
import Derived.Test.YtjanmleoomoedaaGreatW
namespace Go.Proofs.YtjanmleoomoedaaGreat.HM

/-- the j-th bit of the bytes z, the most significant one of each byte first -/
def hb (z:Nat→Int) (j:Nat):Bool:=(z (j / 8)).toNat / 2 ^ (7-j % 8) % 2 == 1

/-- the number of bits up to the last one that is set, among the first n -/
def last (b:Nat→Bool):Nat→Nat
  | 0=>0
  | n+1=>if b n then n+1 else last b n

/-- byte j of the packed bits b 0, .., b (i - 1) -/
def pk (b:Nat→Bool):Nat→Nat→Nat
  | 0,_=>0
  | i+1,j=>pk b i j+if i / 8=j∧b i=true then 2 ^ (7-i % 8) else 0

end Go.Proofs.YtjanmleoomoedaaGreat.HM

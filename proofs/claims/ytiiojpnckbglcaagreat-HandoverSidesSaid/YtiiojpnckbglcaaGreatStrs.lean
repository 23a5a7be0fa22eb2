import Derived.Test.YtiiojpnckbglcaaGreatWs
import Derived.Laws.BytesArg
set_option linter.unusedVariables false
set_option linter.unusedSimpArgs false
namespace Go.Proofs.YtiiojpnckbglcaaGreat
open Go.RowKit
def g9 (n:Nat) (z:Nat->Int):ByteArray:=strOfNums ((List.range n).map z)
theorem eD {n:Nat} {z y:Nat->Int} (h:∀j,j < n->z j=y j):g9 n z=g9 n y:=by
 unfold g9;congr 1
 exact List.map_congr_left fun j hj=>h j (by simpa using hj)
theorem bU {P:Program} {w:World} {B n:Nat} {A:Option Addr} {z:Nat->Int} (src dst e:TypeId) (hs:P.underlying src=some (.slice e)) (he:P.underlying e=some (.int .u8)) (hd:P.underlying dst=some .string)
  (h:au w B A n (fun j=>.int .u8 (z j))) (c:Nat):(convert src dst (.slice A n c)).run P w=.ok (.string (g9 n z)) w:=by
 rcases Nat.eq_zero_or_pos n with h0 | h0
 ·subst h0;rw[run_convert_bytes_string w src dst e A 0 c hs he hd]
  cases A with
  | none=>simp[Conv.bytesToString,g9,strOfNums];rfl
  | some a=>
   rw[run_bytesToString (P:=P) w a 0 c [] (by simp[loadCells,loadCellsFrom])]
   rfl
 ·obtain⟨b,off,rfl,_,hc⟩:=h h0;refine run_convert_bytes_arg (P:=P) w src e hs he b off n c ((List.range n).map z) (by simp) (fun i hi=>?_) dst hd;rw[hc i hi];simp[List.getD,hi]
end Go.Proofs.YtiiojpnckbglcaaGreat

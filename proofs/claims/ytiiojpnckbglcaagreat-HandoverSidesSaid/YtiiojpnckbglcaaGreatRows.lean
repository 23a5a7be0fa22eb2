/-
  No cell of these rows narrows 'for every input' (looked for: loops, veiled, ifaces, maps, wideKeys, modest, calm, conditions, laid).
  DERIVED. THE GIVEN ROWS OF THIS SEAT. 3 by the template 'for every input the law returns true; each argument reads behind the call as it read before'; 0 by the template 'total and deterministic' (their statements: YtiiojpnckbglcaaGreatTotals.lean).
  GIVEN WITH THE SEED: the statements are not yours to turn. If you find one false, say at which input.
  Laid BY PROGRAM, IN A SANDBOX (cutbox-rows.mjs): the forced cells as the released guide's own fill.sh prints them over the translation a8eeffd6920b229d… (all of the seat's roots in one cut). By AI agents, Wed Nov 11 2026. No macro, syntax, notation, axiom, sorry.
-/
import Derived.Test.YtiiojpnckbglcaaGreatChecked
import GoSem.Claim
import GoSem.ClaimJoined
import GoSem.ClaimMapViews
import Derived.JoinedTies
import Derived.KernelRfl
namespace Go.Proofs.YtiiojpnckbglcaaGreat
/- THE CELL 'sum', in the pinned program and in every row, IS THE sha256 OF THE DUMP (.gsa) THAT YtiiojpnckbglcaaGreatProg.lean LOADS. Nothing in Lean hashes anything: it is a label: what it is worth is what the hold of that sum in a sandbox is worth. -/
noncomputable def Tryz.pinned : Pinned := { name := "ytiiojpnckbglcaagreat", sum := "a8eeffd6920b229d3d9377be0946d0eab4288d7daedecaa63151d9555cd1e2b5", checked := Tryz.checked }
namespace Rows
def none {H : Type} : Left H := { results := [], args := [] }

/-- 'userplanelaw47.HandoverSides': WHATEVER THE INPUT: true; the input reads as it did. -/
def handoverSidesSpec : ChangeSpec := { name := "handoverSides", fn := fun _ => fun
  | [d1, d2, d3] => { results := [.lit (.bool true)], args := [d1, d2, d3] }
  | _ => none }
def handoverSidesRow : OpenClaim := { program := "ytiiojpnckbglcaagreat", sum := "a8eeffd6920b229d3d9377be0946d0eab4288d7daedecaa63151d9555cd1e2b5", func := "userplane/userplanelaw47.HandoverSides", spec := "handoverSides", unfollowed := true, recurses := true, plainKeys := false, apart := false }
def HandoverSidesSaid : Prop := handoverSidesRow.holds Tryz.pinned (OpenSpec.ofChange handoverSidesSpec)

/-- ITS FALSE NEIGHBOUR: 'it returns false'. Refute it at one input. -/
def handoverSidesWrong : ChangeSpec := { name := "handoverSides", fn := fun _ => fun
  | [d1, d2, d3] => { results := [.lit (.bool false)], args := [d1, d2, d3] }
  | _ => none }
def HandoverSidesWrongFalsely : Prop := handoverSidesRow.holds Tryz.pinned (OpenSpec.ofChange handoverSidesWrong)

/-- 'userplanelaw45.PdcptxCopies': WHATEVER THE INPUT: true; the input reads as it did. -/
def pdcptxCopiesSpec : ChangeSpec := { name := "pdcptxCopies", fn := fun _ => fun
  | [d1, d2, d3] => { results := [.lit (.bool true)], args := [d1, d2, d3] }
  | _ => none }
def pdcptxCopiesRow : OpenClaim := { program := "ytiiojpnckbglcaagreat", sum := "a8eeffd6920b229d3d9377be0946d0eab4288d7daedecaa63151d9555cd1e2b5", func := "userplane/userplanelaw45.PdcptxCopies", spec := "pdcptxCopies", inPlace := ["maps.clone"], unfollowed := true, recurses := true, plainKeys := false, apart := false }
def PdcptxCopiesSaid : Prop := pdcptxCopiesRow.holds Tryz.pinned (OpenSpec.ofChange pdcptxCopiesSpec)

/-- ITS FALSE NEIGHBOUR: 'it returns false'. Refute it at one input. -/
def pdcptxCopiesWrong : ChangeSpec := { name := "pdcptxCopies", fn := fun _ => fun
  | [d1, d2, d3] => { results := [.lit (.bool false)], args := [d1, d2, d3] }
  | _ => none }
def PdcptxCopiesWrongFalsely : Prop := pdcptxCopiesRow.holds Tryz.pinned (OpenSpec.ofChange pdcptxCopiesWrong)

/-- 'userplanelaw46.PdcprxCompressed': WHATEVER THE INPUT: true; the input reads as it did. -/
def pdcprxCompressedSpec : ChangeSpec := { name := "pdcprxCompressed", fn := fun _ => fun
  | [d1, d2, d3, d4] => { results := [.lit (.bool true)], args := [d1, d2, d3, d4] }
  | _ => none }
def pdcprxCompressedRow : OpenClaim := { program := "ytiiojpnckbglcaagreat", sum := "a8eeffd6920b229d3d9377be0946d0eab4288d7daedecaa63151d9555cd1e2b5", func := "userplane/userplanelaw46.PdcprxCompressed", spec := "pdcprxCompressed", unfollowed := true, recurses := true, plainKeys := false, apart := false }
def PdcprxCompressedSaid : Prop := pdcprxCompressedRow.holds Tryz.pinned (OpenSpec.ofChange pdcprxCompressedSpec)

/-- ITS FALSE NEIGHBOUR: 'it returns false'. Refute it at one input. -/
def pdcprxCompressedWrong : ChangeSpec := { name := "pdcprxCompressed", fn := fun _ => fun
  | [d1, d2, d3, d4] => { results := [.lit (.bool false)], args := [d1, d2, d3, d4] }
  | _ => none }
def PdcprxCompressedWrongFalsely : Prop := pdcprxCompressedRow.holds Tryz.pinned (OpenSpec.ofChange pdcprxCompressedWrong)

/- THE SECOND FORM. 'bulk': how many values and letters a reading holds, each counted each time it is reached (what is shared counts as often as it is met; a slice's spare places count too). A statement '..UptoSaid' is the law's where the arguments, and the package variables that the reading takes, are together of bulk at most 1048576: NARROWER than '..Said'. Prove '..Said' where nothing that the law and all that it calls make is longer than what came in: it says more and counts as full. Else prove '..UptoSaid'. A law counts once. -/
mutual
def uptoBulk {H : Type} : DataW H → Nat
  | .lit (.string bytes) => bytes.length + 1
  | .lit _ => 1
  | .nil => 1
  | .ptr d => uptoBulk d + 1
  | .slice elems spare => uptoBulkAll elems + uptoBulkAll spare + 1
  | .agg parts => uptoBulkAll parts + 1
  | .iface _ d => uptoBulk d + 1
  | .map entries => uptoBulkEntries entries + 1
  | .held _ => 1
def uptoBulkAll {H : Type} : List (DataW H) → Nat
  | [] => 0
  | d :: r => uptoBulk d + uptoBulkAll r
def uptoBulkEntries {H : Type} : List (Lit × DataW H) → Nat
  | [] => 0
  | x :: r => uptoBulkEntry x + uptoBulkEntries r
def uptoBulkEntry {H : Type} : Lit × DataW H → Nat
  | (.string bytes, d) => bytes.length + uptoBulk d + 1
  | (_, d) => uptoBulk d + 1
 end
def uptoSmall : (H : Type) → List (DataW H) → Bool := fun _ ds => decide (uptoBulkAll ds ≤ 1048576)
def OpenSpec.upto (s : _root_.Go.ChangeSpec) : _root_.Go.OpenSpec := { _root_.Go.OpenSpec.ofChange s with cond := some uptoSmall }

/-- 'userplanelaw47.HandoverSides', WHERE WHAT IT READS IS OF BULK AT MOST 1048576: true; the input reads as it did. -/
def handoverSidesUptoRow : OpenClaim := { program := "ytiiojpnckbglcaagreat", sum := "a8eeffd6920b229d3d9377be0946d0eab4288d7daedecaa63151d9555cd1e2b5", func := "userplane/userplanelaw47.HandoverSides", spec := "handoverSides", unfollowed := true, recurses := true, plainKeys := false, apart := false, narrowed := true }
def HandoverSidesUptoSaid : Prop := handoverSidesUptoRow.holds Tryz.pinned (OpenSpec.upto handoverSidesSpec)

/-- 'userplanelaw45.PdcptxCopies', WHERE WHAT IT READS IS OF BULK AT MOST 1048576: true; the input reads as it did. -/
def pdcptxCopiesUptoRow : OpenClaim := { program := "ytiiojpnckbglcaagreat", sum := "a8eeffd6920b229d3d9377be0946d0eab4288d7daedecaa63151d9555cd1e2b5", func := "userplane/userplanelaw45.PdcptxCopies", spec := "pdcptxCopies", inPlace := ["maps.clone"], unfollowed := true, recurses := true, plainKeys := false, apart := false, narrowed := true }
def PdcptxCopiesUptoSaid : Prop := pdcptxCopiesUptoRow.holds Tryz.pinned (OpenSpec.upto pdcptxCopiesSpec)

/-- 'userplanelaw46.PdcprxCompressed', WHERE WHAT IT READS IS OF BULK AT MOST 1048576: true; the input reads as it did. -/
def pdcprxCompressedUptoRow : OpenClaim := { program := "ytiiojpnckbglcaagreat", sum := "a8eeffd6920b229d3d9377be0946d0eab4288d7daedecaa63151d9555cd1e2b5", func := "userplane/userplanelaw46.PdcprxCompressed", spec := "pdcprxCompressed", unfollowed := true, recurses := true, plainKeys := false, apart := false, narrowed := true }
def PdcprxCompressedUptoSaid : Prop := pdcprxCompressedUptoRow.holds Tryz.pinned (OpenSpec.upto pdcprxCompressedSpec)

end Rows
end Go.Proofs.YtiiojpnckbglcaaGreat

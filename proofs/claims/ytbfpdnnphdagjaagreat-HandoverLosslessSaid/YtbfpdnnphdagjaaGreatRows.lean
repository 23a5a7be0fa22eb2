/-
  No cell of these rows narrows 'for every input' (looked for: loops, veiled, ifaces, maps, wideKeys, modest, calm, conditions, laid).
  DERIVED. THE GIVEN ROWS OF THIS SEAT. 2 by the template 'for every input the law returns true; each argument reads behind the call as it read before'; 0 by the template 'total and deterministic' (their statements: YtbfpdnnphdagjaaGreatTotals.lean).
  GIVEN WITH THE SEED: the statements are not yours to turn. If you find one false, say at which input.
  Laid BY PROGRAM, IN A SANDBOX (cutbox-rows.mjs): the forced cells as the released guide's own fill.sh prints them over the translation c94a5fa9cc52f880… (all of the seat's roots in one cut). By AI agents, Wed Nov 11 2026. No macro, syntax, notation, axiom, sorry.
-/
import Derived.Test.YtbfpdnnphdagjaaGreatChecked
import GoSem.Claim
import GoSem.ClaimJoined
import GoSem.ClaimMapViews
import Derived.JoinedTies
import Derived.KernelRfl
namespace Go.Proofs.YtbfpdnnphdagjaaGreat
/- THE CELL 'sum', in the pinned program and in every row, IS THE sha256 OF THE DUMP (.gsa) THAT YtbfpdnnphdagjaaGreatProg.lean LOADS. Nothing in Lean hashes anything: it is a label: what it is worth is what the hold of that sum in a sandbox is worth. -/
noncomputable def Tryz.pinned : Pinned := { name := "ytbfpdnnphdagjaagreat", sum := "c94a5fa9cc52f880a25470c7041c577506ea078d441f3f996797012deff1fe70", checked := Tryz.checked }
namespace Rows
def none {H : Type} : Left H := { results := [], args := [] }

/-- 'userplanelaw47.HandoverKeys': WHATEVER THE INPUT: true; the input reads as it did. -/
def handoverKeysSpec : ChangeSpec := { name := "handoverKeys", fn := fun _ => fun
  | [d1, d2, d3] => { results := [.lit (.bool true)], args := [d1, d2, d3] }
  | _ => none }
def handoverKeysRow : OpenClaim := { program := "ytbfpdnnphdagjaagreat", sum := "c94a5fa9cc52f880a25470c7041c577506ea078d441f3f996797012deff1fe70", func := "userplane/userplanelaw47.HandoverKeys", spec := "handoverKeys", unfollowed := true, recurses := true, plainKeys := false, apart := false }
def HandoverKeysSaid : Prop := handoverKeysRow.holds Tryz.pinned (OpenSpec.ofChange handoverKeysSpec)

/-- ITS FALSE NEIGHBOUR: 'it returns false'. Refute it at one input. -/
def handoverKeysWrong : ChangeSpec := { name := "handoverKeys", fn := fun _ => fun
  | [d1, d2, d3] => { results := [.lit (.bool false)], args := [d1, d2, d3] }
  | _ => none }
def HandoverKeysWrongFalsely : Prop := handoverKeysRow.holds Tryz.pinned (OpenSpec.ofChange handoverKeysWrong)

/-- 'userplanelaw47.HandoverLossless': WHATEVER THE INPUT: true; the input reads as it did. -/
def handoverLosslessSpec : ChangeSpec := { name := "handoverLossless", fn := fun _ => fun
  | [d1, d2] => { results := [.lit (.bool true)], args := [d1, d2] }
  | _ => none }
def handoverLosslessRow : OpenClaim := { program := "ytbfpdnnphdagjaagreat", sum := "c94a5fa9cc52f880a25470c7041c577506ea078d441f3f996797012deff1fe70", func := "userplane/userplanelaw47.HandoverLossless", spec := "handoverLossless", unfollowed := true, recurses := true, plainKeys := false, apart := false }
def HandoverLosslessSaid : Prop := handoverLosslessRow.holds Tryz.pinned (OpenSpec.ofChange handoverLosslessSpec)

/-- ITS FALSE NEIGHBOUR: 'it returns false'. Refute it at one input. -/
def handoverLosslessWrong : ChangeSpec := { name := "handoverLossless", fn := fun _ => fun
  | [d1, d2] => { results := [.lit (.bool false)], args := [d1, d2] }
  | _ => none }
def HandoverLosslessWrongFalsely : Prop := handoverLosslessRow.holds Tryz.pinned (OpenSpec.ofChange handoverLosslessWrong)

/- THE SECOND FORM. 'bulk': how many values and letters a reading holds, each counted each time it is reached (what is shared counts as often as it is met; a slice's spare places count too). A statement '..UptoSaid' is the law's where the arguments, and the package variables that the reading takes, are together of bulk at most 1048576: NARROWER than '..Said'. Prove '..Said' where nothing that the law and all that it calls make is longer than what came in: it says more and counts as full. Else prove '..UptoSaid'. A law counts once. -/
mutual
def uptoBulk {H : Type} : DataW H → Nat
  | .lit (.string bytes) => bytes.length + 1
  | .lit _ => 1
  | .nil => 1
  | .ptr d => uptoBulk d + 1
  | .slice elems spare => uptoBulkAll elems + uptoBulkAll spare + 1
  | .agg parts => uptoBulkAll parts + 1
  | .iface _ d => uptoBulk d + 1
  | .map entries => uptoBulkEntries entries + 1
  | .held _ => 1
def uptoBulkAll {H : Type} : List (DataW H) → Nat
  | [] => 0
  | d :: r => uptoBulk d + uptoBulkAll r
def uptoBulkEntries {H : Type} : List (Lit × DataW H) → Nat
  | [] => 0
  | x :: r => uptoBulkEntry x + uptoBulkEntries r
def uptoBulkEntry {H : Type} : Lit × DataW H → Nat
  | (.string bytes, d) => bytes.length + uptoBulk d + 1
  | (_, d) => uptoBulk d + 1
 end
def uptoSmall : (H : Type) → List (DataW H) → Bool := fun _ ds => decide (uptoBulkAll ds ≤ 1048576)
def OpenSpec.upto (s : _root_.Go.ChangeSpec) : _root_.Go.OpenSpec := { _root_.Go.OpenSpec.ofChange s with cond := some uptoSmall }

/-- 'userplanelaw47.HandoverKeys', WHERE WHAT IT READS IS OF BULK AT MOST 1048576: true; the input reads as it did. -/
def handoverKeysUptoRow : OpenClaim := { program := "ytbfpdnnphdagjaagreat", sum := "c94a5fa9cc52f880a25470c7041c577506ea078d441f3f996797012deff1fe70", func := "userplane/userplanelaw47.HandoverKeys", spec := "handoverKeys", unfollowed := true, recurses := true, plainKeys := false, apart := false, narrowed := true }
def HandoverKeysUptoSaid : Prop := handoverKeysUptoRow.holds Tryz.pinned (OpenSpec.upto handoverKeysSpec)

/-- 'userplanelaw47.HandoverLossless', WHERE WHAT IT READS IS OF BULK AT MOST 1048576: true; the input reads as it did. -/
def handoverLosslessUptoRow : OpenClaim := { program := "ytbfpdnnphdagjaagreat", sum := "c94a5fa9cc52f880a25470c7041c577506ea078d441f3f996797012deff1fe70", func := "userplane/userplanelaw47.HandoverLossless", spec := "handoverLossless", unfollowed := true, recurses := true, plainKeys := false, apart := false, narrowed := true }
def HandoverLosslessUptoSaid : Prop := handoverLosslessUptoRow.holds Tryz.pinned (OpenSpec.upto handoverLosslessSpec)

end Rows
end Go.Proofs.YtbfpdnnphdagjaaGreat

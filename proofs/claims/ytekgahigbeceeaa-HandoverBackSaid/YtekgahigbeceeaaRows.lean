/-
  No cell of these rows narrows 'for every input' (looked for: loops, veiled, ifaces, maps, wideKeys, modest, calm, conditions, laid).
  DERIVED. THE GIVEN ROWS OF THIS SEAT. 10 by the template 'for every input the law returns true; each argument reads behind the call as it read before'; 0 by the template 'total and deterministic' (their statements: YtekgahigbeceeaaTotals.lean).
  GIVEN WITH THE SEED: the statements are not yours to turn. If you find one false, say at which input.
  Laid BY PROGRAM, IN A SANDBOX (cutbox-rows.mjs): the forced cells as the released guide's own fill.sh prints them over the translation 3945fa62a5e32769… (all of the seat's roots in one cut). By AI agents, Wed Nov 11 2026. No macro, syntax, notation, axiom, sorry.
-/
import Derived.Test.YtekgahigbeceeaaChecked
import GoSem.Claim
import GoSem.ClaimJoined
import GoSem.ClaimMapViews
import Derived.JoinedTies
import Derived.KernelRfl
namespace Go.Proofs.Ytekgahigbeceeaa
/- THE CELL 'sum', in the pinned program and in every row, IS THE sha256 OF THE DUMP (.gsa) THAT YtekgahigbeceeaaProg.lean LOADS. Nothing in Lean hashes anything: it is a label: what it is worth is what the hold of that sum in a sandbox is worth. -/
noncomputable def Try.pinned : Pinned := { name := "ytekgahigbeceeaa", sum := "3945fa62a5e32769a7283b899e5809e77709eebc4f74d1c2a93b44f9d84eca0f", checked := Try.checked }
namespace Rows
def none {H : Type} : Left H := { results := [], args := [] }

/-- 'userplanelaw47.HandoverDecodes': WHATEVER THE INPUT: true; the input reads as it did. -/
def handoverDecodesSpec : ChangeSpec := { name := "handoverDecodes", fn := fun _ => fun
  | [d] => { results := [.lit (.bool true)], args := [d] }
  | _ => none }
def handoverDecodesRow : OpenClaim := { program := "ytekgahigbeceeaa", sum := "3945fa62a5e32769a7283b899e5809e77709eebc4f74d1c2a93b44f9d84eca0f", func := "userplane/userplanelaw47.HandoverDecodes", spec := "handoverDecodes", unfollowed := true, recurses := true, apart := false }
def HandoverDecodesSaid : Prop := handoverDecodesRow.holds Try.pinned (OpenSpec.ofChange handoverDecodesSpec)

/-- ITS FALSE NEIGHBOUR: 'it returns false'. Refute it at one input. -/
def handoverDecodesWrong : ChangeSpec := { name := "handoverDecodes", fn := fun _ => fun
  | [d] => { results := [.lit (.bool false)], args := [d] }
  | _ => none }
def HandoverDecodesWrongFalsely : Prop := handoverDecodesRow.holds Try.pinned (OpenSpec.ofChange handoverDecodesWrong)

/-- 'userplanelaw47.HandoverEncodes': WHATEVER THE INPUT: true; the input reads as it did. -/
def handoverEncodesSpec : ChangeSpec := { name := "handoverEncodes", fn := fun _ => fun
  | [d1, d2, d3] => { results := [.lit (.bool true)], args := [d1, d2, d3] }
  | _ => none }
def handoverEncodesRow : OpenClaim := { program := "ytekgahigbeceeaa", sum := "3945fa62a5e32769a7283b899e5809e77709eebc4f74d1c2a93b44f9d84eca0f", func := "userplane/userplanelaw47.HandoverEncodes", spec := "handoverEncodes", unfollowed := true, recurses := true, apart := false }
def HandoverEncodesSaid : Prop := handoverEncodesRow.holds Try.pinned (OpenSpec.ofChange handoverEncodesSpec)

/-- ITS FALSE NEIGHBOUR: 'it returns false'. Refute it at one input. -/
def handoverEncodesWrong : ChangeSpec := { name := "handoverEncodes", fn := fun _ => fun
  | [d1, d2, d3] => { results := [.lit (.bool false)], args := [d1, d2, d3] }
  | _ => none }
def HandoverEncodesWrongFalsely : Prop := handoverEncodesRow.holds Try.pinned (OpenSpec.ofChange handoverEncodesWrong)

/-- 'userplanelaw47.HandoverBack': WHATEVER THE INPUT: true; the input reads as it did. -/
def handoverBackSpec : ChangeSpec := { name := "handoverBack", fn := fun _ => fun
  | [d1, d2, d3] => { results := [.lit (.bool true)], args := [d1, d2, d3] }
  | _ => none }
def handoverBackRow : OpenClaim := { program := "ytekgahigbeceeaa", sum := "3945fa62a5e32769a7283b899e5809e77709eebc4f74d1c2a93b44f9d84eca0f", func := "userplane/userplanelaw47.HandoverBack", spec := "handoverBack", unfollowed := true, recurses := true, apart := false }
def HandoverBackSaid : Prop := handoverBackRow.holds Try.pinned (OpenSpec.ofChange handoverBackSpec)

/-- ITS FALSE NEIGHBOUR: 'it returns false'. Refute it at one input. -/
def handoverBackWrong : ChangeSpec := { name := "handoverBack", fn := fun _ => fun
  | [d1, d2, d3] => { results := [.lit (.bool false)], args := [d1, d2, d3] }
  | _ => none }
def HandoverBackWrongFalsely : Prop := handoverBackRow.holds Try.pinned (OpenSpec.ofChange handoverBackWrong)

/-- 'userplanelaw06.QppParams': WHATEVER THE INPUT: true; the input reads as it did. -/
def qppParamsSpec : ChangeSpec := { name := "qppParams", fn := fun _ => fun
  | [d1, d2] => { results := [.lit (.bool true)], args := [d1, d2] }
  | _ => none }
def qppParamsRow : OpenClaim := { program := "ytekgahigbeceeaa", sum := "3945fa62a5e32769a7283b899e5809e77709eebc4f74d1c2a93b44f9d84eca0f", func := "userplane/userplanelaw06.QppParams", spec := "qppParams", unfollowed := true, recurses := true, apart := false }
def QppParamsSaid : Prop := qppParamsRow.holds Try.pinned (OpenSpec.ofChange qppParamsSpec)

/-- ITS FALSE NEIGHBOUR: 'it returns false'. Refute it at one input. -/
def qppParamsWrong : ChangeSpec := { name := "qppParams", fn := fun _ => fun
  | [d1, d2] => { results := [.lit (.bool false)], args := [d1, d2] }
  | _ => none }
def QppParamsWrongFalsely : Prop := qppParamsRow.holds Try.pinned (OpenSpec.ofChange qppParamsWrong)

/-- 'userplanelaw06.QppOrders': WHATEVER THE INPUT: true; the input reads as it did. -/
def qppOrdersSpec : ChangeSpec := { name := "qppOrders", fn := fun _ => fun
  | [d] => { results := [.lit (.bool true)], args := [d] }
  | _ => none }
def qppOrdersRow : OpenClaim := { program := "ytekgahigbeceeaa", sum := "3945fa62a5e32769a7283b899e5809e77709eebc4f74d1c2a93b44f9d84eca0f", func := "userplane/userplanelaw06.QppOrders", spec := "qppOrders", unfollowed := true, recurses := true, apart := false }
def QppOrdersSaid : Prop := qppOrdersRow.holds Try.pinned (OpenSpec.ofChange qppOrdersSpec)

/-- ITS FALSE NEIGHBOUR: 'it returns false'. Refute it at one input. -/
def qppOrdersWrong : ChangeSpec := { name := "qppOrders", fn := fun _ => fun
  | [d] => { results := [.lit (.bool false)], args := [d] }
  | _ => none }
def QppOrdersWrongFalsely : Prop := qppOrdersRow.holds Try.pinned (OpenSpec.ofChange qppOrdersWrong)

/-- 'userplanelaw06.QppFree': WHATEVER THE INPUT: true; the input reads as it did. -/
def qppFreeSpec : ChangeSpec := { name := "qppFree", fn := fun _ => fun
  | [d1, d2] => { results := [.lit (.bool true)], args := [d1, d2] }
  | _ => none }
def qppFreeRow : OpenClaim := { program := "ytekgahigbeceeaa", sum := "3945fa62a5e32769a7283b899e5809e77709eebc4f74d1c2a93b44f9d84eca0f", func := "userplane/userplanelaw06.QppFree", spec := "qppFree", unfollowed := true, recurses := true, apart := false }
def QppFreeSaid : Prop := qppFreeRow.holds Try.pinned (OpenSpec.ofChange qppFreeSpec)

/-- ITS FALSE NEIGHBOUR: 'it returns false'. Refute it at one input. -/
def qppFreeWrong : ChangeSpec := { name := "qppFree", fn := fun _ => fun
  | [d1, d2] => { results := [.lit (.bool false)], args := [d1, d2] }
  | _ => none }
def QppFreeWrongFalsely : Prop := qppFreeRow.holds Try.pinned (OpenSpec.ofChange qppFreeWrong)

/-- 'userplanelaw06.QppBits': WHATEVER THE INPUT: true; the input reads as it did. -/
def qppBitsSpec : ChangeSpec := { name := "qppBits", fn := fun _ => fun
  | [d] => { results := [.lit (.bool true)], args := [d] }
  | _ => none }
def qppBitsRow : OpenClaim := { program := "ytekgahigbeceeaa", sum := "3945fa62a5e32769a7283b899e5809e77709eebc4f74d1c2a93b44f9d84eca0f", func := "userplane/userplanelaw06.QppBits", spec := "qppBits", unfollowed := true, recurses := true, apart := false }
def QppBitsSaid : Prop := qppBitsRow.holds Try.pinned (OpenSpec.ofChange qppBitsSpec)

/-- ITS FALSE NEIGHBOUR: 'it returns false'. Refute it at one input. -/
def qppBitsWrong : ChangeSpec := { name := "qppBits", fn := fun _ => fun
  | [d] => { results := [.lit (.bool false)], args := [d] }
  | _ => none }
def QppBitsWrongFalsely : Prop := qppBitsRow.holds Try.pinned (OpenSpec.ofChange qppBitsWrong)

/-- 'userplanelaw06.QppInterleaves': WHATEVER THE INPUT: true; the input reads as it did. -/
def qppInterleavesSpec : ChangeSpec := { name := "qppInterleaves", fn := fun _ => fun
  | [d] => { results := [.lit (.bool true)], args := [d] }
  | _ => none }
def qppInterleavesRow : OpenClaim := { program := "ytekgahigbeceeaa", sum := "3945fa62a5e32769a7283b899e5809e77709eebc4f74d1c2a93b44f9d84eca0f", func := "userplane/userplanelaw06.QppInterleaves", spec := "qppInterleaves", unfollowed := true, recurses := true, apart := false }
def QppInterleavesSaid : Prop := qppInterleavesRow.holds Try.pinned (OpenSpec.ofChange qppInterleavesSpec)

/-- ITS FALSE NEIGHBOUR: 'it returns false'. Refute it at one input. -/
def qppInterleavesWrong : ChangeSpec := { name := "qppInterleaves", fn := fun _ => fun
  | [d] => { results := [.lit (.bool false)], args := [d] }
  | _ => none }
def QppInterleavesWrongFalsely : Prop := qppInterleavesRow.holds Try.pinned (OpenSpec.ofChange qppInterleavesWrong)

/-- 'userplanelaw06.QppHolds': WHATEVER THE INPUT: true; the input reads as it did. -/
def qppHoldsSpec : ChangeSpec := { name := "qppHolds", fn := fun _ => fun
  | [d1, d2] => { results := [.lit (.bool true)], args := [d1, d2] }
  | _ => none }
def qppHoldsRow : OpenClaim := { program := "ytekgahigbeceeaa", sum := "3945fa62a5e32769a7283b899e5809e77709eebc4f74d1c2a93b44f9d84eca0f", func := "userplane/userplanelaw06.QppHolds", spec := "qppHolds", unfollowed := true, recurses := true, apart := false }
def QppHoldsSaid : Prop := qppHoldsRow.holds Try.pinned (OpenSpec.ofChange qppHoldsSpec)

/-- ITS FALSE NEIGHBOUR: 'it returns false'. Refute it at one input. -/
def qppHoldsWrong : ChangeSpec := { name := "qppHolds", fn := fun _ => fun
  | [d1, d2] => { results := [.lit (.bool false)], args := [d1, d2] }
  | _ => none }
def QppHoldsWrongFalsely : Prop := qppHoldsRow.holds Try.pinned (OpenSpec.ofChange qppHoldsWrong)

/-- 'userplanelaw06.QppSteps': WHATEVER THE INPUT: true; the input reads as it did. -/
def qppStepsSpec : ChangeSpec := { name := "qppSteps", fn := fun _ => fun
  | [d1, d2] => { results := [.lit (.bool true)], args := [d1, d2] }
  | _ => none }
def qppStepsRow : OpenClaim := { program := "ytekgahigbeceeaa", sum := "3945fa62a5e32769a7283b899e5809e77709eebc4f74d1c2a93b44f9d84eca0f", func := "userplane/userplanelaw06.QppSteps", spec := "qppSteps", unfollowed := true, recurses := true, apart := false }
def QppStepsSaid : Prop := qppStepsRow.holds Try.pinned (OpenSpec.ofChange qppStepsSpec)

/-- ITS FALSE NEIGHBOUR: 'it returns false'. Refute it at one input. -/
def qppStepsWrong : ChangeSpec := { name := "qppSteps", fn := fun _ => fun
  | [d1, d2] => { results := [.lit (.bool false)], args := [d1, d2] }
  | _ => none }
def QppStepsWrongFalsely : Prop := qppStepsRow.holds Try.pinned (OpenSpec.ofChange qppStepsWrong)

/- THE SECOND FORM. 'bulk': how many values and letters a reading holds, each counted each time it is reached (what is shared counts as often as it is met; a slice's spare places count too). A statement '..UptoSaid' is the law's where the arguments, and the package variables that the reading takes, are together of bulk at most 1048576: NARROWER than '..Said'. Prove '..Said' where nothing that the law and all that it calls make is longer than what came in: it says more and counts as full. Else prove '..UptoSaid'. A law counts once. -/
mutual
def uptoBulk {H : Type} : DataW H → Nat
  | .lit (.string bytes) => bytes.length + 1
  | .lit _ => 1
  | .nil => 1
  | .ptr d => uptoBulk d + 1
  | .slice elems spare => uptoBulkAll elems + uptoBulkAll spare + 1
  | .agg parts => uptoBulkAll parts + 1
  | .iface _ d => uptoBulk d + 1
  | .map entries => uptoBulkEntries entries + 1
  | .held _ => 1
def uptoBulkAll {H : Type} : List (DataW H) → Nat
  | [] => 0
  | d :: r => uptoBulk d + uptoBulkAll r
def uptoBulkEntries {H : Type} : List (Lit × DataW H) → Nat
  | [] => 0
  | x :: r => uptoBulkEntry x + uptoBulkEntries r
def uptoBulkEntry {H : Type} : Lit × DataW H → Nat
  | (.string bytes, d) => bytes.length + uptoBulk d + 1
  | (_, d) => uptoBulk d + 1
 end
def uptoSmall : (H : Type) → List (DataW H) → Bool := fun _ ds => decide (uptoBulkAll ds ≤ 1048576)
def OpenSpec.upto (s : _root_.Go.ChangeSpec) : _root_.Go.OpenSpec := { _root_.Go.OpenSpec.ofChange s with cond := some uptoSmall }

/-- 'userplanelaw47.HandoverDecodes', WHERE WHAT IT READS IS OF BULK AT MOST 1048576: true; the input reads as it did. -/
def handoverDecodesUptoRow : OpenClaim := { program := "ytekgahigbeceeaa", sum := "3945fa62a5e32769a7283b899e5809e77709eebc4f74d1c2a93b44f9d84eca0f", func := "userplane/userplanelaw47.HandoverDecodes", spec := "handoverDecodes", unfollowed := true, recurses := true, apart := false, narrowed := true }
def HandoverDecodesUptoSaid : Prop := handoverDecodesUptoRow.holds Try.pinned (OpenSpec.upto handoverDecodesSpec)

/-- 'userplanelaw47.HandoverEncodes', WHERE WHAT IT READS IS OF BULK AT MOST 1048576: true; the input reads as it did. -/
def handoverEncodesUptoRow : OpenClaim := { program := "ytekgahigbeceeaa", sum := "3945fa62a5e32769a7283b899e5809e77709eebc4f74d1c2a93b44f9d84eca0f", func := "userplane/userplanelaw47.HandoverEncodes", spec := "handoverEncodes", unfollowed := true, recurses := true, apart := false, narrowed := true }
def HandoverEncodesUptoSaid : Prop := handoverEncodesUptoRow.holds Try.pinned (OpenSpec.upto handoverEncodesSpec)

/-- 'userplanelaw47.HandoverBack', WHERE WHAT IT READS IS OF BULK AT MOST 1048576: true; the input reads as it did. -/
def handoverBackUptoRow : OpenClaim := { program := "ytekgahigbeceeaa", sum := "3945fa62a5e32769a7283b899e5809e77709eebc4f74d1c2a93b44f9d84eca0f", func := "userplane/userplanelaw47.HandoverBack", spec := "handoverBack", unfollowed := true, recurses := true, apart := false, narrowed := true }
def HandoverBackUptoSaid : Prop := handoverBackUptoRow.holds Try.pinned (OpenSpec.upto handoverBackSpec)

/-- 'userplanelaw06.QppParams', WHERE WHAT IT READS IS OF BULK AT MOST 1048576: true; the input reads as it did. -/
def qppParamsUptoRow : OpenClaim := { program := "ytekgahigbeceeaa", sum := "3945fa62a5e32769a7283b899e5809e77709eebc4f74d1c2a93b44f9d84eca0f", func := "userplane/userplanelaw06.QppParams", spec := "qppParams", unfollowed := true, recurses := true, apart := false, narrowed := true }
def QppParamsUptoSaid : Prop := qppParamsUptoRow.holds Try.pinned (OpenSpec.upto qppParamsSpec)

/-- 'userplanelaw06.QppOrders', WHERE WHAT IT READS IS OF BULK AT MOST 1048576: true; the input reads as it did. -/
def qppOrdersUptoRow : OpenClaim := { program := "ytekgahigbeceeaa", sum := "3945fa62a5e32769a7283b899e5809e77709eebc4f74d1c2a93b44f9d84eca0f", func := "userplane/userplanelaw06.QppOrders", spec := "qppOrders", unfollowed := true, recurses := true, apart := false, narrowed := true }
def QppOrdersUptoSaid : Prop := qppOrdersUptoRow.holds Try.pinned (OpenSpec.upto qppOrdersSpec)

/-- 'userplanelaw06.QppFree', WHERE WHAT IT READS IS OF BULK AT MOST 1048576: true; the input reads as it did. -/
def qppFreeUptoRow : OpenClaim := { program := "ytekgahigbeceeaa", sum := "3945fa62a5e32769a7283b899e5809e77709eebc4f74d1c2a93b44f9d84eca0f", func := "userplane/userplanelaw06.QppFree", spec := "qppFree", unfollowed := true, recurses := true, apart := false, narrowed := true }
def QppFreeUptoSaid : Prop := qppFreeUptoRow.holds Try.pinned (OpenSpec.upto qppFreeSpec)

/-- 'userplanelaw06.QppBits', WHERE WHAT IT READS IS OF BULK AT MOST 1048576: true; the input reads as it did. -/
def qppBitsUptoRow : OpenClaim := { program := "ytekgahigbeceeaa", sum := "3945fa62a5e32769a7283b899e5809e77709eebc4f74d1c2a93b44f9d84eca0f", func := "userplane/userplanelaw06.QppBits", spec := "qppBits", unfollowed := true, recurses := true, apart := false, narrowed := true }
def QppBitsUptoSaid : Prop := qppBitsUptoRow.holds Try.pinned (OpenSpec.upto qppBitsSpec)

/-- 'userplanelaw06.QppInterleaves', WHERE WHAT IT READS IS OF BULK AT MOST 1048576: true; the input reads as it did. -/
def qppInterleavesUptoRow : OpenClaim := { program := "ytekgahigbeceeaa", sum := "3945fa62a5e32769a7283b899e5809e77709eebc4f74d1c2a93b44f9d84eca0f", func := "userplane/userplanelaw06.QppInterleaves", spec := "qppInterleaves", unfollowed := true, recurses := true, apart := false, narrowed := true }
def QppInterleavesUptoSaid : Prop := qppInterleavesUptoRow.holds Try.pinned (OpenSpec.upto qppInterleavesSpec)

/-- 'userplanelaw06.QppHolds', WHERE WHAT IT READS IS OF BULK AT MOST 1048576: true; the input reads as it did. -/
def qppHoldsUptoRow : OpenClaim := { program := "ytekgahigbeceeaa", sum := "3945fa62a5e32769a7283b899e5809e77709eebc4f74d1c2a93b44f9d84eca0f", func := "userplane/userplanelaw06.QppHolds", spec := "qppHolds", unfollowed := true, recurses := true, apart := false, narrowed := true }
def QppHoldsUptoSaid : Prop := qppHoldsUptoRow.holds Try.pinned (OpenSpec.upto qppHoldsSpec)

/-- 'userplanelaw06.QppSteps', WHERE WHAT IT READS IS OF BULK AT MOST 1048576: true; the input reads as it did. -/
def qppStepsUptoRow : OpenClaim := { program := "ytekgahigbeceeaa", sum := "3945fa62a5e32769a7283b899e5809e77709eebc4f74d1c2a93b44f9d84eca0f", func := "userplane/userplanelaw06.QppSteps", spec := "qppSteps", unfollowed := true, recurses := true, apart := false, narrowed := true }
def QppStepsUptoSaid : Prop := qppStepsUptoRow.holds Try.pinned (OpenSpec.upto qppStepsSpec)

end Rows
end Go.Proofs.Ytekgahigbeceeaa

/-
  No cell of these rows narrows 'for every input' (looked for: loops, veiled, ifaces, maps, wideKeys, modest, calm, conditions, laid).
  DERIVED. THE GIVEN ROWS OF THIS SEAT. 4 by the template 'for every input the law returns true; each argument reads behind the call as it read before'; 0 by the template 'total and deterministic' (their statements: YtmdpiajhfohagaaGreatTotals.lean).
  GIVEN WITH THE SEED: the statements are not yours to turn. If you find one false, say at which input.
  Laid BY PROGRAM, IN A SANDBOX (cutbox-rows.mjs): the forced cells as the released guide's own fill.sh prints them over the translation 122ec7440d7de8b7… (all of the seat's roots in one cut). By AI agents, Wed Nov 11 2026. No macro, syntax, notation, axiom, sorry.
-/
import Derived.Test.YtmdpiajhfohagaaGreatChecked
import GoSem.Claim
import GoSem.ClaimJoined
import GoSem.ClaimMapViews
import Derived.JoinedTies
import Derived.KernelRfl
namespace Go.Proofs.YtmdpiajhfohagaaGreat
/- THE CELL 'sum', in the pinned program and in every row, IS THE sha256 OF THE DUMP (.gsa) THAT YtmdpiajhfohagaaGreatProg.lean LOADS. Nothing in Lean hashes anything: it is a label: what it is worth is what the hold of that sum in a sandbox is worth. -/
noncomputable def Tryz.pinned : Pinned := { name := "ytmdpiajhfohagaagreat", sum := "122ec7440d7de8b722c179873a7d5c6cf53841edae0315824fab062a0212a3c2", checked := Tryz.checked }
namespace Rows
def none {H : Type} : Left H := { results := [], args := [] }

/-- 'userplanelaw46.PdcprxSequence': WHATEVER THE INPUT: true; the input reads as it did. -/
def pdcprxSequenceSpec : ChangeSpec := { name := "pdcprxSequence", fn := fun _ => fun
  | [d1, d2, d3] => { results := [.lit (.bool true)], args := [d1, d2, d3] }
  | _ => none }
def pdcprxSequenceRow : OpenClaim := { program := "ytmdpiajhfohagaagreat", sum := "122ec7440d7de8b722c179873a7d5c6cf53841edae0315824fab062a0212a3c2", func := "userplane/userplanelaw46.PdcprxSequence", spec := "pdcprxSequence", unfollowed := true, recurses := true, plainKeys := false, apart := false }
def PdcprxSequenceSaid : Prop := pdcprxSequenceRow.holds Tryz.pinned (OpenSpec.ofChange pdcprxSequenceSpec)

/-- ITS FALSE NEIGHBOUR: 'it returns false'. Refute it at one input. -/
def pdcprxSequenceWrong : ChangeSpec := { name := "pdcprxSequence", fn := fun _ => fun
  | [d1, d2, d3] => { results := [.lit (.bool false)], args := [d1, d2, d3] }
  | _ => none }
def PdcprxSequenceWrongFalsely : Prop := pdcprxSequenceRow.holds Tryz.pinned (OpenSpec.ofChange pdcprxSequenceWrong)

/-- 'userplanelaw46.PdcprxOwn': WHATEVER THE INPUT: true; the input reads as it did. -/
def pdcprxOwnSpec : ChangeSpec := { name := "pdcprxOwn", fn := fun _ => fun
  | [d1, d2] => { results := [.lit (.bool true)], args := [d1, d2] }
  | _ => none }
def pdcprxOwnRow : OpenClaim := { program := "ytmdpiajhfohagaagreat", sum := "122ec7440d7de8b722c179873a7d5c6cf53841edae0315824fab062a0212a3c2", func := "userplane/userplanelaw46.PdcprxOwn", spec := "pdcprxOwn", unfollowed := true, recurses := true, plainKeys := false, apart := false }
def PdcprxOwnSaid : Prop := pdcprxOwnRow.holds Tryz.pinned (OpenSpec.ofChange pdcprxOwnSpec)

/-- ITS FALSE NEIGHBOUR: 'it returns false'. Refute it at one input. -/
def pdcprxOwnWrong : ChangeSpec := { name := "pdcprxOwn", fn := fun _ => fun
  | [d1, d2] => { results := [.lit (.bool false)], args := [d1, d2] }
  | _ => none }
def PdcprxOwnWrongFalsely : Prop := pdcprxOwnRow.holds Tryz.pinned (OpenSpec.ofChange pdcprxOwnWrong)

/-- 'userplanelaw46.PdcprxNil': WHATEVER THE INPUT: true; the input reads as it did. -/
def pdcprxNilSpec : ChangeSpec := { name := "pdcprxNil", fn := fun _ => fun
  | [d1, d2, d3] => { results := [.lit (.bool true)], args := [d1, d2, d3] }
  | _ => none }
def pdcprxNilRow : OpenClaim := { program := "ytmdpiajhfohagaagreat", sum := "122ec7440d7de8b722c179873a7d5c6cf53841edae0315824fab062a0212a3c2", func := "userplane/userplanelaw46.PdcprxNil", spec := "pdcprxNil", inPlace := ["maps.clone"], unfollowed := true, recurses := true, plainKeys := false, apart := false }
def PdcprxNilSaid : Prop := pdcprxNilRow.holds Tryz.pinned (OpenSpec.ofChange pdcprxNilSpec)

/-- ITS FALSE NEIGHBOUR: 'it returns false'. Refute it at one input. -/
def pdcprxNilWrong : ChangeSpec := { name := "pdcprxNil", fn := fun _ => fun
  | [d1, d2, d3] => { results := [.lit (.bool false)], args := [d1, d2, d3] }
  | _ => none }
def PdcprxNilWrongFalsely : Prop := pdcprxNilRow.holds Tryz.pinned (OpenSpec.ofChange pdcprxNilWrong)

/-- 'userplanelaw46.PdcprxBack': WHATEVER THE INPUT: true; the input reads as it did. -/
def pdcprxBackSpec : ChangeSpec := { name := "pdcprxBack", fn := fun _ => fun
  | [d1, d2, d3] => { results := [.lit (.bool true)], args := [d1, d2, d3] }
  | _ => none }
def pdcprxBackRow : OpenClaim := { program := "ytmdpiajhfohagaagreat", sum := "122ec7440d7de8b722c179873a7d5c6cf53841edae0315824fab062a0212a3c2", func := "userplane/userplanelaw46.PdcprxBack", spec := "pdcprxBack", unfollowed := true, recurses := true, plainKeys := false, apart := false }
def PdcprxBackSaid : Prop := pdcprxBackRow.holds Tryz.pinned (OpenSpec.ofChange pdcprxBackSpec)

/-- ITS FALSE NEIGHBOUR: 'it returns false'. Refute it at one input. -/
def pdcprxBackWrong : ChangeSpec := { name := "pdcprxBack", fn := fun _ => fun
  | [d1, d2, d3] => { results := [.lit (.bool false)], args := [d1, d2, d3] }
  | _ => none }
def PdcprxBackWrongFalsely : Prop := pdcprxBackRow.holds Tryz.pinned (OpenSpec.ofChange pdcprxBackWrong)

/- THE SECOND FORM. 'bulk': how many values and letters a reading holds, each counted each time it is reached (what is shared counts as often as it is met; a slice's spare places count too). A statement '..UptoSaid' is the law's where the arguments, and the package variables that the reading takes, are together of bulk at most 1048576: NARROWER than '..Said'. Prove '..Said' where nothing that the law and all that it calls make is longer than what came in: it says more and counts as full. Else prove '..UptoSaid'. A law counts once. -/
mutual
def uptoBulk {H : Type} : DataW H → Nat
  | .lit (.string bytes) => bytes.length + 1
  | .lit _ => 1
  | .nil => 1
  | .ptr d => uptoBulk d + 1
  | .slice elems spare => uptoBulkAll elems + uptoBulkAll spare + 1
  | .agg parts => uptoBulkAll parts + 1
  | .iface _ d => uptoBulk d + 1
  | .map entries => uptoBulkEntries entries + 1
  | .held _ => 1
def uptoBulkAll {H : Type} : List (DataW H) → Nat
  | [] => 0
  | d :: r => uptoBulk d + uptoBulkAll r
def uptoBulkEntries {H : Type} : List (Lit × DataW H) → Nat
  | [] => 0
  | x :: r => uptoBulkEntry x + uptoBulkEntries r
def uptoBulkEntry {H : Type} : Lit × DataW H → Nat
  | (.string bytes, d) => bytes.length + uptoBulk d + 1
  | (_, d) => uptoBulk d + 1
 end
def uptoSmall : (H : Type) → List (DataW H) → Bool := fun _ ds => decide (uptoBulkAll ds ≤ 1048576)
def OpenSpec.upto (s : _root_.Go.ChangeSpec) : _root_.Go.OpenSpec := { _root_.Go.OpenSpec.ofChange s with cond := some uptoSmall }

/-- 'userplanelaw46.PdcprxSequence', WHERE WHAT IT READS IS OF BULK AT MOST 1048576: true; the input reads as it did. -/
def pdcprxSequenceUptoRow : OpenClaim := { program := "ytmdpiajhfohagaagreat", sum := "122ec7440d7de8b722c179873a7d5c6cf53841edae0315824fab062a0212a3c2", func := "userplane/userplanelaw46.PdcprxSequence", spec := "pdcprxSequence", unfollowed := true, recurses := true, plainKeys := false, apart := false, narrowed := true }
def PdcprxSequenceUptoSaid : Prop := pdcprxSequenceUptoRow.holds Tryz.pinned (OpenSpec.upto pdcprxSequenceSpec)

/-- 'userplanelaw46.PdcprxOwn', WHERE WHAT IT READS IS OF BULK AT MOST 1048576: true; the input reads as it did. -/
def pdcprxOwnUptoRow : OpenClaim := { program := "ytmdpiajhfohagaagreat", sum := "122ec7440d7de8b722c179873a7d5c6cf53841edae0315824fab062a0212a3c2", func := "userplane/userplanelaw46.PdcprxOwn", spec := "pdcprxOwn", unfollowed := true, recurses := true, plainKeys := false, apart := false, narrowed := true }
def PdcprxOwnUptoSaid : Prop := pdcprxOwnUptoRow.holds Tryz.pinned (OpenSpec.upto pdcprxOwnSpec)

/-- 'userplanelaw46.PdcprxNil', WHERE WHAT IT READS IS OF BULK AT MOST 1048576: true; the input reads as it did. -/
def pdcprxNilUptoRow : OpenClaim := { program := "ytmdpiajhfohagaagreat", sum := "122ec7440d7de8b722c179873a7d5c6cf53841edae0315824fab062a0212a3c2", func := "userplane/userplanelaw46.PdcprxNil", spec := "pdcprxNil", inPlace := ["maps.clone"], unfollowed := true, recurses := true, plainKeys := false, apart := false, narrowed := true }
def PdcprxNilUptoSaid : Prop := pdcprxNilUptoRow.holds Tryz.pinned (OpenSpec.upto pdcprxNilSpec)

/-- 'userplanelaw46.PdcprxBack', WHERE WHAT IT READS IS OF BULK AT MOST 1048576: true; the input reads as it did. -/
def pdcprxBackUptoRow : OpenClaim := { program := "ytmdpiajhfohagaagreat", sum := "122ec7440d7de8b722c179873a7d5c6cf53841edae0315824fab062a0212a3c2", func := "userplane/userplanelaw46.PdcprxBack", spec := "pdcprxBack", unfollowed := true, recurses := true, plainKeys := false, apart := false, narrowed := true }
def PdcprxBackUptoSaid : Prop := pdcprxBackUptoRow.holds Tryz.pinned (OpenSpec.upto pdcprxBackSpec)

end Rows
end Go.Proofs.YtmdpiajhfohagaaGreat

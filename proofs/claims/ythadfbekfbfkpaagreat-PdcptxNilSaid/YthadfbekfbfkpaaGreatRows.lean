/-
  No cell of these rows narrows 'for every input' (looked for: loops, veiled, ifaces, maps, wideKeys, modest, calm, conditions, laid).
  DERIVED. THE GIVEN ROWS OF THIS SEAT. 15 by the template 'for every input the law returns true; each argument reads behind the call as it read before'; 0 by the template 'total and deterministic' (their statements: YthadfbekfbfkpaaGreatTotals.lean).
  GIVEN WITH THE SEED: the statements are not yours to turn. If you find one false, say at which input.
  Laid BY PROGRAM, IN A SANDBOX (cutbox-rows.mjs): the forced cells as the released guide's own fill.sh prints them over the translation 58b316855fbe0490… (all of the seat's roots in one cut). By AI agents, Wed Nov 11 2026. No macro, syntax, notation, axiom, sorry.
-/
import Derived.Test.YthadfbekfbfkpaaGreatChecked
import GoSem.Claim
import GoSem.ClaimJoined
import GoSem.ClaimMapViews
import Derived.JoinedTies
import Derived.KernelRfl
namespace Go.Proofs.YthadfbekfbfkpaaGreat
/- THE CELL 'sum', in the pinned program and in every row, IS THE sha256 OF THE DUMP (.gsa) THAT YthadfbekfbfkpaaGreatProg.lean LOADS. Nothing in Lean hashes anything: it is a label: what it is worth is what the hold of that sum in a sandbox is worth. -/
noncomputable def Tryz.pinned : Pinned := { name := "ythadfbekfbfkpaagreat", sum := "58b316855fbe049093ffd50531a07e048d4d784fde94ed25a08c0829b702df72", checked := Tryz.checked }
namespace Rows
def none {H : Type} : Left H := { results := [], args := [] }

/-- 'userplanelaw45.PdcptxPlays': WHATEVER THE INPUT: true; the input reads as it did. -/
def pdcptxPlaysSpec : ChangeSpec := { name := "pdcptxPlays", fn := fun _ => fun
  | [d1, d2, d3] => { results := [.lit (.bool true)], args := [d1, d2, d3] }
  | _ => none }
def pdcptxPlaysRow : OpenClaim := { program := "ythadfbekfbfkpaagreat", sum := "58b316855fbe049093ffd50531a07e048d4d784fde94ed25a08c0829b702df72", func := "userplane/userplanelaw45.PdcptxPlays", spec := "pdcptxPlays", unfollowed := true, recurses := true, plainKeys := false, apart := false }
def PdcptxPlaysSaid : Prop := pdcptxPlaysRow.holds Tryz.pinned (OpenSpec.ofChange pdcptxPlaysSpec)

/-- ITS FALSE NEIGHBOUR: 'it returns false'. Refute it at one input. -/
def pdcptxPlaysWrong : ChangeSpec := { name := "pdcptxPlays", fn := fun _ => fun
  | [d1, d2, d3] => { results := [.lit (.bool false)], args := [d1, d2, d3] }
  | _ => none }
def PdcptxPlaysWrongFalsely : Prop := pdcptxPlaysRow.holds Tryz.pinned (OpenSpec.ofChange pdcptxPlaysWrong)

/-- 'userplanelaw45.PdcptxCopies': WHATEVER THE INPUT: true; the input reads as it did. -/
def pdcptxCopiesSpec : ChangeSpec := { name := "pdcptxCopies", fn := fun _ => fun
  | [d1, d2, d3] => { results := [.lit (.bool true)], args := [d1, d2, d3] }
  | _ => none }
def pdcptxCopiesRow : OpenClaim := { program := "ythadfbekfbfkpaagreat", sum := "58b316855fbe049093ffd50531a07e048d4d784fde94ed25a08c0829b702df72", func := "userplane/userplanelaw45.PdcptxCopies", spec := "pdcptxCopies", inPlace := ["maps.clone"], unfollowed := true, recurses := true, plainKeys := false, apart := false }
def PdcptxCopiesSaid : Prop := pdcptxCopiesRow.holds Tryz.pinned (OpenSpec.ofChange pdcptxCopiesSpec)

/-- ITS FALSE NEIGHBOUR: 'it returns false'. Refute it at one input. -/
def pdcptxCopiesWrong : ChangeSpec := { name := "pdcptxCopies", fn := fun _ => fun
  | [d1, d2, d3] => { results := [.lit (.bool false)], args := [d1, d2, d3] }
  | _ => none }
def PdcptxCopiesWrongFalsely : Prop := pdcptxCopiesRow.holds Tryz.pinned (OpenSpec.ofChange pdcptxCopiesWrong)

/-- 'userplanelaw45.PdcptxNil': WHATEVER THE INPUT: true; the input reads as it did. -/
def pdcptxNilSpec : ChangeSpec := { name := "pdcptxNil", fn := fun _ => fun
  | [d1, d2] => { results := [.lit (.bool true)], args := [d1, d2] }
  | _ => none }
def pdcptxNilRow : OpenClaim := { program := "ythadfbekfbfkpaagreat", sum := "58b316855fbe049093ffd50531a07e048d4d784fde94ed25a08c0829b702df72", func := "userplane/userplanelaw45.PdcptxNil", spec := "pdcptxNil", inPlace := ["maps.clone"], unfollowed := true, recurses := true, plainKeys := false, apart := false }
def PdcptxNilSaid : Prop := pdcptxNilRow.holds Tryz.pinned (OpenSpec.ofChange pdcptxNilSpec)

/-- ITS FALSE NEIGHBOUR: 'it returns false'. Refute it at one input. -/
def pdcptxNilWrong : ChangeSpec := { name := "pdcptxNil", fn := fun _ => fun
  | [d1, d2] => { results := [.lit (.bool false)], args := [d1, d2] }
  | _ => none }
def PdcptxNilWrongFalsely : Prop := pdcptxNilRow.holds Tryz.pinned (OpenSpec.ofChange pdcptxNilWrong)

/-- 'userplanelaw47.HandoverSides': WHATEVER THE INPUT: true; the input reads as it did. -/
def handoverSidesSpec : ChangeSpec := { name := "handoverSides", fn := fun _ => fun
  | [d1, d2, d3] => { results := [.lit (.bool true)], args := [d1, d2, d3] }
  | _ => none }
def handoverSidesRow : OpenClaim := { program := "ythadfbekfbfkpaagreat", sum := "58b316855fbe049093ffd50531a07e048d4d784fde94ed25a08c0829b702df72", func := "userplane/userplanelaw47.HandoverSides", spec := "handoverSides", unfollowed := true, recurses := true, plainKeys := false, apart := false }
def HandoverSidesSaid : Prop := handoverSidesRow.holds Tryz.pinned (OpenSpec.ofChange handoverSidesSpec)

/-- ITS FALSE NEIGHBOUR: 'it returns false'. Refute it at one input. -/
def handoverSidesWrong : ChangeSpec := { name := "handoverSides", fn := fun _ => fun
  | [d1, d2, d3] => { results := [.lit (.bool false)], args := [d1, d2, d3] }
  | _ => none }
def HandoverSidesWrongFalsely : Prop := handoverSidesRow.holds Tryz.pinned (OpenSpec.ofChange handoverSidesWrong)

/-- 'userplanelaw47.HandoverKeys': WHATEVER THE INPUT: true; the input reads as it did. -/
def handoverKeysSpec : ChangeSpec := { name := "handoverKeys", fn := fun _ => fun
  | [d1, d2, d3] => { results := [.lit (.bool true)], args := [d1, d2, d3] }
  | _ => none }
def handoverKeysRow : OpenClaim := { program := "ythadfbekfbfkpaagreat", sum := "58b316855fbe049093ffd50531a07e048d4d784fde94ed25a08c0829b702df72", func := "userplane/userplanelaw47.HandoverKeys", spec := "handoverKeys", unfollowed := true, recurses := true, plainKeys := false, apart := false }
def HandoverKeysSaid : Prop := handoverKeysRow.holds Tryz.pinned (OpenSpec.ofChange handoverKeysSpec)

/-- ITS FALSE NEIGHBOUR: 'it returns false'. Refute it at one input. -/
def handoverKeysWrong : ChangeSpec := { name := "handoverKeys", fn := fun _ => fun
  | [d1, d2, d3] => { results := [.lit (.bool false)], args := [d1, d2, d3] }
  | _ => none }
def HandoverKeysWrongFalsely : Prop := handoverKeysRow.holds Tryz.pinned (OpenSpec.ofChange handoverKeysWrong)

/-- 'userplanelaw47.HandoverLossless': WHATEVER THE INPUT: true; the input reads as it did. -/
def handoverLosslessSpec : ChangeSpec := { name := "handoverLossless", fn := fun _ => fun
  | [d1, d2] => { results := [.lit (.bool true)], args := [d1, d2] }
  | _ => none }
def handoverLosslessRow : OpenClaim := { program := "ythadfbekfbfkpaagreat", sum := "58b316855fbe049093ffd50531a07e048d4d784fde94ed25a08c0829b702df72", func := "userplane/userplanelaw47.HandoverLossless", spec := "handoverLossless", unfollowed := true, recurses := true, plainKeys := false, apart := false }
def HandoverLosslessSaid : Prop := handoverLosslessRow.holds Tryz.pinned (OpenSpec.ofChange handoverLosslessSpec)

/-- ITS FALSE NEIGHBOUR: 'it returns false'. Refute it at one input. -/
def handoverLosslessWrong : ChangeSpec := { name := "handoverLossless", fn := fun _ => fun
  | [d1, d2] => { results := [.lit (.bool false)], args := [d1, d2] }
  | _ => none }
def HandoverLosslessWrongFalsely : Prop := handoverLosslessRow.holds Tryz.pinned (OpenSpec.ofChange handoverLosslessWrong)

/-- 'userplanelaw46.PdcprxLosses': WHATEVER THE INPUT: true; the input reads as it did. -/
def pdcprxLossesSpec : ChangeSpec := { name := "pdcprxLosses", fn := fun _ => fun
  | [d1, d2, d3, d4] => { results := [.lit (.bool true)], args := [d1, d2, d3, d4] }
  | _ => none }
def pdcprxLossesRow : OpenClaim := { program := "ythadfbekfbfkpaagreat", sum := "58b316855fbe049093ffd50531a07e048d4d784fde94ed25a08c0829b702df72", func := "userplane/userplanelaw46.PdcprxLosses", spec := "pdcprxLosses", unfollowed := true, recurses := true, plainKeys := false, apart := false }
def PdcprxLossesSaid : Prop := pdcprxLossesRow.holds Tryz.pinned (OpenSpec.ofChange pdcprxLossesSpec)

/-- ITS FALSE NEIGHBOUR: 'it returns false'. Refute it at one input. -/
def pdcprxLossesWrong : ChangeSpec := { name := "pdcprxLosses", fn := fun _ => fun
  | [d1, d2, d3, d4] => { results := [.lit (.bool false)], args := [d1, d2, d3, d4] }
  | _ => none }
def PdcprxLossesWrongFalsely : Prop := pdcprxLossesRow.holds Tryz.pinned (OpenSpec.ofChange pdcprxLossesWrong)

/-- 'userplanelaw46.PdcprxRefuses': WHATEVER THE INPUT: true; the input reads as it did. -/
def pdcprxRefusesSpec : ChangeSpec := { name := "pdcprxRefuses", fn := fun _ => fun
  | [d1, d2, d3] => { results := [.lit (.bool true)], args := [d1, d2, d3] }
  | _ => none }
def pdcprxRefusesRow : OpenClaim := { program := "ythadfbekfbfkpaagreat", sum := "58b316855fbe049093ffd50531a07e048d4d784fde94ed25a08c0829b702df72", func := "userplane/userplanelaw46.PdcprxRefuses", spec := "pdcprxRefuses", unfollowed := true, recurses := true, plainKeys := false, apart := false }
def PdcprxRefusesSaid : Prop := pdcprxRefusesRow.holds Tryz.pinned (OpenSpec.ofChange pdcprxRefusesSpec)

/-- ITS FALSE NEIGHBOUR: 'it returns false'. Refute it at one input. -/
def pdcprxRefusesWrong : ChangeSpec := { name := "pdcprxRefuses", fn := fun _ => fun
  | [d1, d2, d3] => { results := [.lit (.bool false)], args := [d1, d2, d3] }
  | _ => none }
def PdcprxRefusesWrongFalsely : Prop := pdcprxRefusesRow.holds Tryz.pinned (OpenSpec.ofChange pdcprxRefusesWrong)

/-- 'userplanelaw46.PdcprxSequence': WHATEVER THE INPUT: true; the input reads as it did. -/
def pdcprxSequenceSpec : ChangeSpec := { name := "pdcprxSequence", fn := fun _ => fun
  | [d1, d2, d3] => { results := [.lit (.bool true)], args := [d1, d2, d3] }
  | _ => none }
def pdcprxSequenceRow : OpenClaim := { program := "ythadfbekfbfkpaagreat", sum := "58b316855fbe049093ffd50531a07e048d4d784fde94ed25a08c0829b702df72", func := "userplane/userplanelaw46.PdcprxSequence", spec := "pdcprxSequence", unfollowed := true, recurses := true, plainKeys := false, apart := false }
def PdcprxSequenceSaid : Prop := pdcprxSequenceRow.holds Tryz.pinned (OpenSpec.ofChange pdcprxSequenceSpec)

/-- ITS FALSE NEIGHBOUR: 'it returns false'. Refute it at one input. -/
def pdcprxSequenceWrong : ChangeSpec := { name := "pdcprxSequence", fn := fun _ => fun
  | [d1, d2, d3] => { results := [.lit (.bool false)], args := [d1, d2, d3] }
  | _ => none }
def PdcprxSequenceWrongFalsely : Prop := pdcprxSequenceRow.holds Tryz.pinned (OpenSpec.ofChange pdcprxSequenceWrong)

/-- 'userplanelaw46.PdcprxOwn': WHATEVER THE INPUT: true; the input reads as it did. -/
def pdcprxOwnSpec : ChangeSpec := { name := "pdcprxOwn", fn := fun _ => fun
  | [d1, d2] => { results := [.lit (.bool true)], args := [d1, d2] }
  | _ => none }
def pdcprxOwnRow : OpenClaim := { program := "ythadfbekfbfkpaagreat", sum := "58b316855fbe049093ffd50531a07e048d4d784fde94ed25a08c0829b702df72", func := "userplane/userplanelaw46.PdcprxOwn", spec := "pdcprxOwn", unfollowed := true, recurses := true, plainKeys := false, apart := false }
def PdcprxOwnSaid : Prop := pdcprxOwnRow.holds Tryz.pinned (OpenSpec.ofChange pdcprxOwnSpec)

/-- ITS FALSE NEIGHBOUR: 'it returns false'. Refute it at one input. -/
def pdcprxOwnWrong : ChangeSpec := { name := "pdcprxOwn", fn := fun _ => fun
  | [d1, d2] => { results := [.lit (.bool false)], args := [d1, d2] }
  | _ => none }
def PdcprxOwnWrongFalsely : Prop := pdcprxOwnRow.holds Tryz.pinned (OpenSpec.ofChange pdcprxOwnWrong)

/-- 'userplanelaw46.PdcprxCopies': WHATEVER THE INPUT: true; the input reads as it did. -/
def pdcprxCopiesSpec : ChangeSpec := { name := "pdcprxCopies", fn := fun _ => fun
  | [d1, d2, d3] => { results := [.lit (.bool true)], args := [d1, d2, d3] }
  | _ => none }
def pdcprxCopiesRow : OpenClaim := { program := "ythadfbekfbfkpaagreat", sum := "58b316855fbe049093ffd50531a07e048d4d784fde94ed25a08c0829b702df72", func := "userplane/userplanelaw46.PdcprxCopies", spec := "pdcprxCopies", inPlace := ["maps.clone"], unfollowed := true, recurses := true, plainKeys := false, apart := false }
def PdcprxCopiesSaid : Prop := pdcprxCopiesRow.holds Tryz.pinned (OpenSpec.ofChange pdcprxCopiesSpec)

/-- ITS FALSE NEIGHBOUR: 'it returns false'. Refute it at one input. -/
def pdcprxCopiesWrong : ChangeSpec := { name := "pdcprxCopies", fn := fun _ => fun
  | [d1, d2, d3] => { results := [.lit (.bool false)], args := [d1, d2, d3] }
  | _ => none }
def PdcprxCopiesWrongFalsely : Prop := pdcprxCopiesRow.holds Tryz.pinned (OpenSpec.ofChange pdcprxCopiesWrong)

/-- 'userplanelaw46.PdcprxPlays': WHATEVER THE INPUT: true; the input reads as it did. -/
def pdcprxPlaysSpec : ChangeSpec := { name := "pdcprxPlays", fn := fun _ => fun
  | [d1, d2, d3] => { results := [.lit (.bool true)], args := [d1, d2, d3] }
  | _ => none }
def pdcprxPlaysRow : OpenClaim := { program := "ythadfbekfbfkpaagreat", sum := "58b316855fbe049093ffd50531a07e048d4d784fde94ed25a08c0829b702df72", func := "userplane/userplanelaw46.PdcprxPlays", spec := "pdcprxPlays", unfollowed := true, recurses := true, plainKeys := false, apart := false }
def PdcprxPlaysSaid : Prop := pdcprxPlaysRow.holds Tryz.pinned (OpenSpec.ofChange pdcprxPlaysSpec)

/-- ITS FALSE NEIGHBOUR: 'it returns false'. Refute it at one input. -/
def pdcprxPlaysWrong : ChangeSpec := { name := "pdcprxPlays", fn := fun _ => fun
  | [d1, d2, d3] => { results := [.lit (.bool false)], args := [d1, d2, d3] }
  | _ => none }
def PdcprxPlaysWrongFalsely : Prop := pdcprxPlaysRow.holds Tryz.pinned (OpenSpec.ofChange pdcprxPlaysWrong)

/-- 'userplanelaw46.PdcprxNil': WHATEVER THE INPUT: true; the input reads as it did. -/
def pdcprxNilSpec : ChangeSpec := { name := "pdcprxNil", fn := fun _ => fun
  | [d1, d2, d3] => { results := [.lit (.bool true)], args := [d1, d2, d3] }
  | _ => none }
def pdcprxNilRow : OpenClaim := { program := "ythadfbekfbfkpaagreat", sum := "58b316855fbe049093ffd50531a07e048d4d784fde94ed25a08c0829b702df72", func := "userplane/userplanelaw46.PdcprxNil", spec := "pdcprxNil", inPlace := ["maps.clone"], unfollowed := true, recurses := true, plainKeys := false, apart := false }
def PdcprxNilSaid : Prop := pdcprxNilRow.holds Tryz.pinned (OpenSpec.ofChange pdcprxNilSpec)

/-- ITS FALSE NEIGHBOUR: 'it returns false'. Refute it at one input. -/
def pdcprxNilWrong : ChangeSpec := { name := "pdcprxNil", fn := fun _ => fun
  | [d1, d2, d3] => { results := [.lit (.bool false)], args := [d1, d2, d3] }
  | _ => none }
def PdcprxNilWrongFalsely : Prop := pdcprxNilRow.holds Tryz.pinned (OpenSpec.ofChange pdcprxNilWrong)

/-- 'userplanelaw46.PdcprxBack': WHATEVER THE INPUT: true; the input reads as it did. -/
def pdcprxBackSpec : ChangeSpec := { name := "pdcprxBack", fn := fun _ => fun
  | [d1, d2, d3] => { results := [.lit (.bool true)], args := [d1, d2, d3] }
  | _ => none }
def pdcprxBackRow : OpenClaim := { program := "ythadfbekfbfkpaagreat", sum := "58b316855fbe049093ffd50531a07e048d4d784fde94ed25a08c0829b702df72", func := "userplane/userplanelaw46.PdcprxBack", spec := "pdcprxBack", unfollowed := true, recurses := true, plainKeys := false, apart := false }
def PdcprxBackSaid : Prop := pdcprxBackRow.holds Tryz.pinned (OpenSpec.ofChange pdcprxBackSpec)

/-- ITS FALSE NEIGHBOUR: 'it returns false'. Refute it at one input. -/
def pdcprxBackWrong : ChangeSpec := { name := "pdcprxBack", fn := fun _ => fun
  | [d1, d2, d3] => { results := [.lit (.bool false)], args := [d1, d2, d3] }
  | _ => none }
def PdcprxBackWrongFalsely : Prop := pdcprxBackRow.holds Tryz.pinned (OpenSpec.ofChange pdcprxBackWrong)

/-- 'userplanelaw46.PdcprxCompressed': WHATEVER THE INPUT: true; the input reads as it did. -/
def pdcprxCompressedSpec : ChangeSpec := { name := "pdcprxCompressed", fn := fun _ => fun
  | [d1, d2, d3, d4] => { results := [.lit (.bool true)], args := [d1, d2, d3, d4] }
  | _ => none }
def pdcprxCompressedRow : OpenClaim := { program := "ythadfbekfbfkpaagreat", sum := "58b316855fbe049093ffd50531a07e048d4d784fde94ed25a08c0829b702df72", func := "userplane/userplanelaw46.PdcprxCompressed", spec := "pdcprxCompressed", unfollowed := true, recurses := true, plainKeys := false, apart := false }
def PdcprxCompressedSaid : Prop := pdcprxCompressedRow.holds Tryz.pinned (OpenSpec.ofChange pdcprxCompressedSpec)

/-- ITS FALSE NEIGHBOUR: 'it returns false'. Refute it at one input. -/
def pdcprxCompressedWrong : ChangeSpec := { name := "pdcprxCompressed", fn := fun _ => fun
  | [d1, d2, d3, d4] => { results := [.lit (.bool false)], args := [d1, d2, d3, d4] }
  | _ => none }
def PdcprxCompressedWrongFalsely : Prop := pdcprxCompressedRow.holds Tryz.pinned (OpenSpec.ofChange pdcprxCompressedWrong)

/- THE SECOND FORM. 'bulk': how many values and letters a reading holds, each counted each time it is reached (what is shared counts as often as it is met; a slice's spare places count too). A statement '..UptoSaid' is the law's where the arguments, and the package variables that the reading takes, are together of bulk at most 1048576: NARROWER than '..Said'. Prove '..Said' where nothing that the law and all that it calls make is longer than what came in: it says more and counts as full. Else prove '..UptoSaid'. A law counts once. -/
mutual
def uptoBulk {H : Type} : DataW H → Nat
  | .lit (.string bytes) => bytes.length + 1
  | .lit _ => 1
  | .nil => 1
  | .ptr d => uptoBulk d + 1
  | .slice elems spare => uptoBulkAll elems + uptoBulkAll spare + 1
  | .agg parts => uptoBulkAll parts + 1
  | .iface _ d => uptoBulk d + 1
  | .map entries => uptoBulkEntries entries + 1
  | .held _ => 1
def uptoBulkAll {H : Type} : List (DataW H) → Nat
  | [] => 0
  | d :: r => uptoBulk d + uptoBulkAll r
def uptoBulkEntries {H : Type} : List (Lit × DataW H) → Nat
  | [] => 0
  | x :: r => uptoBulkEntry x + uptoBulkEntries r
def uptoBulkEntry {H : Type} : Lit × DataW H → Nat
  | (.string bytes, d) => bytes.length + uptoBulk d + 1
  | (_, d) => uptoBulk d + 1
 end
def uptoSmall : (H : Type) → List (DataW H) → Bool := fun _ ds => decide (uptoBulkAll ds ≤ 1048576)
def OpenSpec.upto (s : _root_.Go.ChangeSpec) : _root_.Go.OpenSpec := { _root_.Go.OpenSpec.ofChange s with cond := some uptoSmall }

/-- 'userplanelaw45.PdcptxPlays', WHERE WHAT IT READS IS OF BULK AT MOST 1048576: true; the input reads as it did. -/
def pdcptxPlaysUptoRow : OpenClaim := { program := "ythadfbekfbfkpaagreat", sum := "58b316855fbe049093ffd50531a07e048d4d784fde94ed25a08c0829b702df72", func := "userplane/userplanelaw45.PdcptxPlays", spec := "pdcptxPlays", unfollowed := true, recurses := true, plainKeys := false, apart := false, narrowed := true }
def PdcptxPlaysUptoSaid : Prop := pdcptxPlaysUptoRow.holds Tryz.pinned (OpenSpec.upto pdcptxPlaysSpec)

/-- 'userplanelaw45.PdcptxCopies', WHERE WHAT IT READS IS OF BULK AT MOST 1048576: true; the input reads as it did. -/
def pdcptxCopiesUptoRow : OpenClaim := { program := "ythadfbekfbfkpaagreat", sum := "58b316855fbe049093ffd50531a07e048d4d784fde94ed25a08c0829b702df72", func := "userplane/userplanelaw45.PdcptxCopies", spec := "pdcptxCopies", inPlace := ["maps.clone"], unfollowed := true, recurses := true, plainKeys := false, apart := false, narrowed := true }
def PdcptxCopiesUptoSaid : Prop := pdcptxCopiesUptoRow.holds Tryz.pinned (OpenSpec.upto pdcptxCopiesSpec)

/-- 'userplanelaw45.PdcptxNil', WHERE WHAT IT READS IS OF BULK AT MOST 1048576: true; the input reads as it did. -/
def pdcptxNilUptoRow : OpenClaim := { program := "ythadfbekfbfkpaagreat", sum := "58b316855fbe049093ffd50531a07e048d4d784fde94ed25a08c0829b702df72", func := "userplane/userplanelaw45.PdcptxNil", spec := "pdcptxNil", inPlace := ["maps.clone"], unfollowed := true, recurses := true, plainKeys := false, apart := false, narrowed := true }
def PdcptxNilUptoSaid : Prop := pdcptxNilUptoRow.holds Tryz.pinned (OpenSpec.upto pdcptxNilSpec)

/-- 'userplanelaw47.HandoverSides', WHERE WHAT IT READS IS OF BULK AT MOST 1048576: true; the input reads as it did. -/
def handoverSidesUptoRow : OpenClaim := { program := "ythadfbekfbfkpaagreat", sum := "58b316855fbe049093ffd50531a07e048d4d784fde94ed25a08c0829b702df72", func := "userplane/userplanelaw47.HandoverSides", spec := "handoverSides", unfollowed := true, recurses := true, plainKeys := false, apart := false, narrowed := true }
def HandoverSidesUptoSaid : Prop := handoverSidesUptoRow.holds Tryz.pinned (OpenSpec.upto handoverSidesSpec)

/-- 'userplanelaw47.HandoverKeys', WHERE WHAT IT READS IS OF BULK AT MOST 1048576: true; the input reads as it did. -/
def handoverKeysUptoRow : OpenClaim := { program := "ythadfbekfbfkpaagreat", sum := "58b316855fbe049093ffd50531a07e048d4d784fde94ed25a08c0829b702df72", func := "userplane/userplanelaw47.HandoverKeys", spec := "handoverKeys", unfollowed := true, recurses := true, plainKeys := false, apart := false, narrowed := true }
def HandoverKeysUptoSaid : Prop := handoverKeysUptoRow.holds Tryz.pinned (OpenSpec.upto handoverKeysSpec)

/-- 'userplanelaw47.HandoverLossless', WHERE WHAT IT READS IS OF BULK AT MOST 1048576: true; the input reads as it did. -/
def handoverLosslessUptoRow : OpenClaim := { program := "ythadfbekfbfkpaagreat", sum := "58b316855fbe049093ffd50531a07e048d4d784fde94ed25a08c0829b702df72", func := "userplane/userplanelaw47.HandoverLossless", spec := "handoverLossless", unfollowed := true, recurses := true, plainKeys := false, apart := false, narrowed := true }
def HandoverLosslessUptoSaid : Prop := handoverLosslessUptoRow.holds Tryz.pinned (OpenSpec.upto handoverLosslessSpec)

/-- 'userplanelaw46.PdcprxLosses', WHERE WHAT IT READS IS OF BULK AT MOST 1048576: true; the input reads as it did. -/
def pdcprxLossesUptoRow : OpenClaim := { program := "ythadfbekfbfkpaagreat", sum := "58b316855fbe049093ffd50531a07e048d4d784fde94ed25a08c0829b702df72", func := "userplane/userplanelaw46.PdcprxLosses", spec := "pdcprxLosses", unfollowed := true, recurses := true, plainKeys := false, apart := false, narrowed := true }
def PdcprxLossesUptoSaid : Prop := pdcprxLossesUptoRow.holds Tryz.pinned (OpenSpec.upto pdcprxLossesSpec)

/-- 'userplanelaw46.PdcprxRefuses', WHERE WHAT IT READS IS OF BULK AT MOST 1048576: true; the input reads as it did. -/
def pdcprxRefusesUptoRow : OpenClaim := { program := "ythadfbekfbfkpaagreat", sum := "58b316855fbe049093ffd50531a07e048d4d784fde94ed25a08c0829b702df72", func := "userplane/userplanelaw46.PdcprxRefuses", spec := "pdcprxRefuses", unfollowed := true, recurses := true, plainKeys := false, apart := false, narrowed := true }
def PdcprxRefusesUptoSaid : Prop := pdcprxRefusesUptoRow.holds Tryz.pinned (OpenSpec.upto pdcprxRefusesSpec)

/-- 'userplanelaw46.PdcprxSequence', WHERE WHAT IT READS IS OF BULK AT MOST 1048576: true; the input reads as it did. -/
def pdcprxSequenceUptoRow : OpenClaim := { program := "ythadfbekfbfkpaagreat", sum := "58b316855fbe049093ffd50531a07e048d4d784fde94ed25a08c0829b702df72", func := "userplane/userplanelaw46.PdcprxSequence", spec := "pdcprxSequence", unfollowed := true, recurses := true, plainKeys := false, apart := false, narrowed := true }
def PdcprxSequenceUptoSaid : Prop := pdcprxSequenceUptoRow.holds Tryz.pinned (OpenSpec.upto pdcprxSequenceSpec)

/-- 'userplanelaw46.PdcprxOwn', WHERE WHAT IT READS IS OF BULK AT MOST 1048576: true; the input reads as it did. -/
def pdcprxOwnUptoRow : OpenClaim := { program := "ythadfbekfbfkpaagreat", sum := "58b316855fbe049093ffd50531a07e048d4d784fde94ed25a08c0829b702df72", func := "userplane/userplanelaw46.PdcprxOwn", spec := "pdcprxOwn", unfollowed := true, recurses := true, plainKeys := false, apart := false, narrowed := true }
def PdcprxOwnUptoSaid : Prop := pdcprxOwnUptoRow.holds Tryz.pinned (OpenSpec.upto pdcprxOwnSpec)

/-- 'userplanelaw46.PdcprxCopies', WHERE WHAT IT READS IS OF BULK AT MOST 1048576: true; the input reads as it did. -/
def pdcprxCopiesUptoRow : OpenClaim := { program := "ythadfbekfbfkpaagreat", sum := "58b316855fbe049093ffd50531a07e048d4d784fde94ed25a08c0829b702df72", func := "userplane/userplanelaw46.PdcprxCopies", spec := "pdcprxCopies", inPlace := ["maps.clone"], unfollowed := true, recurses := true, plainKeys := false, apart := false, narrowed := true }
def PdcprxCopiesUptoSaid : Prop := pdcprxCopiesUptoRow.holds Tryz.pinned (OpenSpec.upto pdcprxCopiesSpec)

/-- 'userplanelaw46.PdcprxPlays', WHERE WHAT IT READS IS OF BULK AT MOST 1048576: true; the input reads as it did. -/
def pdcprxPlaysUptoRow : OpenClaim := { program := "ythadfbekfbfkpaagreat", sum := "58b316855fbe049093ffd50531a07e048d4d784fde94ed25a08c0829b702df72", func := "userplane/userplanelaw46.PdcprxPlays", spec := "pdcprxPlays", unfollowed := true, recurses := true, plainKeys := false, apart := false, narrowed := true }
def PdcprxPlaysUptoSaid : Prop := pdcprxPlaysUptoRow.holds Tryz.pinned (OpenSpec.upto pdcprxPlaysSpec)

/-- 'userplanelaw46.PdcprxNil', WHERE WHAT IT READS IS OF BULK AT MOST 1048576: true; the input reads as it did. -/
def pdcprxNilUptoRow : OpenClaim := { program := "ythadfbekfbfkpaagreat", sum := "58b316855fbe049093ffd50531a07e048d4d784fde94ed25a08c0829b702df72", func := "userplane/userplanelaw46.PdcprxNil", spec := "pdcprxNil", inPlace := ["maps.clone"], unfollowed := true, recurses := true, plainKeys := false, apart := false, narrowed := true }
def PdcprxNilUptoSaid : Prop := pdcprxNilUptoRow.holds Tryz.pinned (OpenSpec.upto pdcprxNilSpec)

/-- 'userplanelaw46.PdcprxBack', WHERE WHAT IT READS IS OF BULK AT MOST 1048576: true; the input reads as it did. -/
def pdcprxBackUptoRow : OpenClaim := { program := "ythadfbekfbfkpaagreat", sum := "58b316855fbe049093ffd50531a07e048d4d784fde94ed25a08c0829b702df72", func := "userplane/userplanelaw46.PdcprxBack", spec := "pdcprxBack", unfollowed := true, recurses := true, plainKeys := false, apart := false, narrowed := true }
def PdcprxBackUptoSaid : Prop := pdcprxBackUptoRow.holds Tryz.pinned (OpenSpec.upto pdcprxBackSpec)

/-- 'userplanelaw46.PdcprxCompressed', WHERE WHAT IT READS IS OF BULK AT MOST 1048576: true; the input reads as it did. -/
def pdcprxCompressedUptoRow : OpenClaim := { program := "ythadfbekfbfkpaagreat", sum := "58b316855fbe049093ffd50531a07e048d4d784fde94ed25a08c0829b702df72", func := "userplane/userplanelaw46.PdcprxCompressed", spec := "pdcprxCompressed", unfollowed := true, recurses := true, plainKeys := false, apart := false, narrowed := true }
def PdcprxCompressedUptoSaid : Prop := pdcprxCompressedUptoRow.holds Tryz.pinned (OpenSpec.upto pdcprxCompressedSpec)

end Rows
end Go.Proofs.YthadfbekfbfkpaaGreat

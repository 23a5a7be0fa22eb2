/-
  No cell of these rows narrows 'for every input' (looked for: loops, veiled, ifaces, maps, wideKeys, modest, calm, conditions, laid).
  DERIVED. THE GIVEN ROWS OF THIS SEAT. 7 by the template 'for every input the law returns true; each argument reads behind the call as it read before'; 0 by the template 'total and deterministic' (their statements: YtofaghpflmeblaaTotals.lean).
  GIVEN WITH THE SEED: the statements are not yours to turn. If you find one false, say at which input.
  Laid BY PROGRAM, IN A SANDBOX (cutbox-rows.mjs): the forced cells as the released guide's own fill.sh prints them over the translation 26b74b3293460038… (all of the seat's roots in one cut). By AI agents, Wed Nov 11 2026. No macro, syntax, notation, axiom, sorry.
-/
import Derived.Test.YtofaghpflmeblaaChecked
import GoSem.Claim
import GoSem.ClaimJoined
import GoSem.ClaimMapViews
import Derived.JoinedTies
import Derived.KernelRfl
namespace Go.Proofs.Ytofaghpflmeblaa
/- THE CELL 'sum', in the pinned program and in every row, IS THE sha256 OF THE DUMP (.gsa) THAT YtofaghpflmeblaaProg.lean LOADS. Nothing in Lean hashes anything: it is a label: what it is worth is what the hold of that sum in a sandbox is worth. -/
noncomputable def Try.pinned : Pinned := { name := "ytofaghpflmeblaa", sum := "26b74b3293460038fccdcb6e1c8f95682a07fbc5045aa2b962b7f29a251996d7", checked := Try.checked }
namespace Rows
def none {H : Type} : Left H := { results := [], args := [] }

/-- 'userplanelaw44.ExpandBounds': WHATEVER THE INPUT: true; the input reads as it did. -/
def expandBoundsSpec : ChangeSpec := { name := "expandBounds", fn := fun _ => fun
  | [d1, d2] => { results := [.lit (.bool true)], args := [d1, d2] }
  | _ => none }
def expandBoundsRow : OpenClaim := { program := "ytofaghpflmeblaa", sum := "26b74b3293460038fccdcb6e1c8f95682a07fbc5045aa2b962b7f29a251996d7", func := "userplane/userplanelaw44.ExpandBounds", spec := "expandBounds", unfollowed := true, recurses := true, apart := false }
def ExpandBoundsSaid : Prop := expandBoundsRow.holds Try.pinned (OpenSpec.ofChange expandBoundsSpec)

/-- ITS FALSE NEIGHBOUR: 'it returns false'. Refute it at one input. -/
def expandBoundsWrong : ChangeSpec := { name := "expandBounds", fn := fun _ => fun
  | [d1, d2] => { results := [.lit (.bool false)], args := [d1, d2] }
  | _ => none }
def ExpandBoundsWrongFalsely : Prop := expandBoundsRow.holds Try.pinned (OpenSpec.ofChange expandBoundsWrong)

/-- 'userplanelaw44.ExpandPlays': WHATEVER THE INPUT: true; the input reads as it did. -/
def expandPlaysSpec : ChangeSpec := { name := "expandPlays", fn := fun _ => fun
  | [d] => { results := [.lit (.bool true)], args := [d] }
  | _ => none }
def expandPlaysRow : OpenClaim := { program := "ytofaghpflmeblaa", sum := "26b74b3293460038fccdcb6e1c8f95682a07fbc5045aa2b962b7f29a251996d7", func := "userplane/userplanelaw44.ExpandPlays", spec := "expandPlays", unfollowed := true, recurses := true, apart := false }
def ExpandPlaysSaid : Prop := expandPlaysRow.holds Try.pinned (OpenSpec.ofChange expandPlaysSpec)

/-- ITS FALSE NEIGHBOUR: 'it returns false'. Refute it at one input. -/
def expandPlaysWrong : ChangeSpec := { name := "expandPlays", fn := fun _ => fun
  | [d] => { results := [.lit (.bool false)], args := [d] }
  | _ => none }
def ExpandPlaysWrongFalsely : Prop := expandPlaysRow.holds Try.pinned (OpenSpec.ofChange expandPlaysWrong)

/-- 'userplanelaw44.ExpandClones': WHATEVER THE INPUT: true; the input reads as it did. -/
def expandClonesSpec : ChangeSpec := { name := "expandClones", fn := fun _ => fun
  | [d1, d2, d3] => { results := [.lit (.bool true)], args := [d1, d2, d3] }
  | _ => none }
def expandClonesRow : OpenClaim := { program := "ytofaghpflmeblaa", sum := "26b74b3293460038fccdcb6e1c8f95682a07fbc5045aa2b962b7f29a251996d7", func := "userplane/userplanelaw44.ExpandClones", spec := "expandClones", unfollowed := true, recurses := true, apart := false }
def ExpandClonesSaid : Prop := expandClonesRow.holds Try.pinned (OpenSpec.ofChange expandClonesSpec)

/-- ITS FALSE NEIGHBOUR: 'it returns false'. Refute it at one input. -/
def expandClonesWrong : ChangeSpec := { name := "expandClones", fn := fun _ => fun
  | [d1, d2, d3] => { results := [.lit (.bool false)], args := [d1, d2, d3] }
  | _ => none }
def ExpandClonesWrongFalsely : Prop := expandClonesRow.holds Try.pinned (OpenSpec.ofChange expandClonesWrong)

/-- 'userplanelaw44.ExpandContexts': WHATEVER THE INPUT: true; the input reads as it did. -/
def expandContextsSpec : ChangeSpec := { name := "expandContexts", fn := fun _ => fun
  | [d1, d2] => { results := [.lit (.bool true)], args := [d1, d2] }
  | _ => none }
def expandContextsRow : OpenClaim := { program := "ytofaghpflmeblaa", sum := "26b74b3293460038fccdcb6e1c8f95682a07fbc5045aa2b962b7f29a251996d7", func := "userplane/userplanelaw44.ExpandContexts", spec := "expandContexts", unfollowed := true, recurses := true, apart := false }
def ExpandContextsSaid : Prop := expandContextsRow.holds Try.pinned (OpenSpec.ofChange expandContextsSpec)

/-- ITS FALSE NEIGHBOUR: 'it returns false'. Refute it at one input. -/
def expandContextsWrong : ChangeSpec := { name := "expandContexts", fn := fun _ => fun
  | [d1, d2] => { results := [.lit (.bool false)], args := [d1, d2] }
  | _ => none }
def ExpandContextsWrongFalsely : Prop := expandContextsRow.holds Try.pinned (OpenSpec.ofChange expandContextsWrong)

/-- 'userplanelaw44.ExpandNone': WHATEVER THE INPUT: true; the input reads as it did. -/
def expandNoneSpec : ChangeSpec := { name := "expandNone", fn := fun _ => fun
  | [d1, d2] => { results := [.lit (.bool true)], args := [d1, d2] }
  | _ => none }
def expandNoneRow : OpenClaim := { program := "ytofaghpflmeblaa", sum := "26b74b3293460038fccdcb6e1c8f95682a07fbc5045aa2b962b7f29a251996d7", func := "userplane/userplanelaw44.ExpandNone", spec := "expandNone", unfollowed := true, recurses := true, apart := false }
def ExpandNoneSaid : Prop := expandNoneRow.holds Try.pinned (OpenSpec.ofChange expandNoneSpec)

/-- ITS FALSE NEIGHBOUR: 'it returns false'. Refute it at one input. -/
def expandNoneWrong : ChangeSpec := { name := "expandNone", fn := fun _ => fun
  | [d1, d2] => { results := [.lit (.bool false)], args := [d1, d2] }
  | _ => none }
def ExpandNoneWrongFalsely : Prop := expandNoneRow.holds Try.pinned (OpenSpec.ofChange expandNoneWrong)

/-- 'userplanelaw44.ExpandBack': WHATEVER THE INPUT: true; the input reads as it did. -/
def expandBackSpec : ChangeSpec := { name := "expandBack", fn := fun _ => fun
  | [d] => { results := [.lit (.bool true)], args := [d] }
  | _ => none }
def expandBackRow : OpenClaim := { program := "ytofaghpflmeblaa", sum := "26b74b3293460038fccdcb6e1c8f95682a07fbc5045aa2b962b7f29a251996d7", func := "userplane/userplanelaw44.ExpandBack", spec := "expandBack", unfollowed := true, recurses := true, apart := false }
def ExpandBackSaid : Prop := expandBackRow.holds Try.pinned (OpenSpec.ofChange expandBackSpec)

/-- ITS FALSE NEIGHBOUR: 'it returns false'. Refute it at one input. -/
def expandBackWrong : ChangeSpec := { name := "expandBack", fn := fun _ => fun
  | [d] => { results := [.lit (.bool false)], args := [d] }
  | _ => none }
def ExpandBackWrongFalsely : Prop := expandBackRow.holds Try.pinned (OpenSpec.ofChange expandBackWrong)

/-- 'userplanelaw44.ExpandHolds': WHATEVER THE INPUT: true; the input reads as it did. -/
def expandHoldsSpec : ChangeSpec := { name := "expandHolds", fn := fun _ => fun
  | [d1, d2, d3] => { results := [.lit (.bool true)], args := [d1, d2, d3] }
  | _ => none }
def expandHoldsRow : OpenClaim := { program := "ytofaghpflmeblaa", sum := "26b74b3293460038fccdcb6e1c8f95682a07fbc5045aa2b962b7f29a251996d7", func := "userplane/userplanelaw44.ExpandHolds", spec := "expandHolds", unfollowed := true, recurses := true, apart := false }
def ExpandHoldsSaid : Prop := expandHoldsRow.holds Try.pinned (OpenSpec.ofChange expandHoldsSpec)

/-- ITS FALSE NEIGHBOUR: 'it returns false'. Refute it at one input. -/
def expandHoldsWrong : ChangeSpec := { name := "expandHolds", fn := fun _ => fun
  | [d1, d2, d3] => { results := [.lit (.bool false)], args := [d1, d2, d3] }
  | _ => none }
def ExpandHoldsWrongFalsely : Prop := expandHoldsRow.holds Try.pinned (OpenSpec.ofChange expandHoldsWrong)

/- THE SECOND FORM. 'bulk': how many values and letters a reading holds, each counted each time it is reached (what is shared counts as often as it is met; a slice's spare places count too). A statement '..UptoSaid' is the law's where the arguments, and the package variables that the reading takes, are together of bulk at most 1048576: NARROWER than '..Said'. Prove '..Said' where nothing that the law and all that it calls make is longer than what came in: it says more and counts as full. Else prove '..UptoSaid'. A law counts once. -/
mutual
def uptoBulk {H : Type} : DataW H → Nat
  | .lit (.string bytes) => bytes.length + 1
  | .lit _ => 1
  | .nil => 1
  | .ptr d => uptoBulk d + 1
  | .slice elems spare => uptoBulkAll elems + uptoBulkAll spare + 1
  | .agg parts => uptoBulkAll parts + 1
  | .iface _ d => uptoBulk d + 1
  | .map entries => uptoBulkEntries entries + 1
  | .held _ => 1
def uptoBulkAll {H : Type} : List (DataW H) → Nat
  | [] => 0
  | d :: r => uptoBulk d + uptoBulkAll r
def uptoBulkEntries {H : Type} : List (Lit × DataW H) → Nat
  | [] => 0
  | x :: r => uptoBulkEntry x + uptoBulkEntries r
def uptoBulkEntry {H : Type} : Lit × DataW H → Nat
  | (.string bytes, d) => bytes.length + uptoBulk d + 1
  | (_, d) => uptoBulk d + 1
 end
def uptoSmall : (H : Type) → List (DataW H) → Bool := fun _ ds => decide (uptoBulkAll ds ≤ 1048576)
def OpenSpec.upto (s : _root_.Go.ChangeSpec) : _root_.Go.OpenSpec := { _root_.Go.OpenSpec.ofChange s with cond := some uptoSmall }

/-- 'userplanelaw44.ExpandBounds', WHERE WHAT IT READS IS OF BULK AT MOST 1048576: true; the input reads as it did. -/
def expandBoundsUptoRow : OpenClaim := { program := "ytofaghpflmeblaa", sum := "26b74b3293460038fccdcb6e1c8f95682a07fbc5045aa2b962b7f29a251996d7", func := "userplane/userplanelaw44.ExpandBounds", spec := "expandBounds", unfollowed := true, recurses := true, apart := false, narrowed := true }
def ExpandBoundsUptoSaid : Prop := expandBoundsUptoRow.holds Try.pinned (OpenSpec.upto expandBoundsSpec)

/-- 'userplanelaw44.ExpandPlays', WHERE WHAT IT READS IS OF BULK AT MOST 1048576: true; the input reads as it did. -/
def expandPlaysUptoRow : OpenClaim := { program := "ytofaghpflmeblaa", sum := "26b74b3293460038fccdcb6e1c8f95682a07fbc5045aa2b962b7f29a251996d7", func := "userplane/userplanelaw44.ExpandPlays", spec := "expandPlays", unfollowed := true, recurses := true, apart := false, narrowed := true }
def ExpandPlaysUptoSaid : Prop := expandPlaysUptoRow.holds Try.pinned (OpenSpec.upto expandPlaysSpec)

/-- 'userplanelaw44.ExpandClones', WHERE WHAT IT READS IS OF BULK AT MOST 1048576: true; the input reads as it did. -/
def expandClonesUptoRow : OpenClaim := { program := "ytofaghpflmeblaa", sum := "26b74b3293460038fccdcb6e1c8f95682a07fbc5045aa2b962b7f29a251996d7", func := "userplane/userplanelaw44.ExpandClones", spec := "expandClones", unfollowed := true, recurses := true, apart := false, narrowed := true }
def ExpandClonesUptoSaid : Prop := expandClonesUptoRow.holds Try.pinned (OpenSpec.upto expandClonesSpec)

/-- 'userplanelaw44.ExpandContexts', WHERE WHAT IT READS IS OF BULK AT MOST 1048576: true; the input reads as it did. -/
def expandContextsUptoRow : OpenClaim := { program := "ytofaghpflmeblaa", sum := "26b74b3293460038fccdcb6e1c8f95682a07fbc5045aa2b962b7f29a251996d7", func := "userplane/userplanelaw44.ExpandContexts", spec := "expandContexts", unfollowed := true, recurses := true, apart := false, narrowed := true }
def ExpandContextsUptoSaid : Prop := expandContextsUptoRow.holds Try.pinned (OpenSpec.upto expandContextsSpec)

/-- 'userplanelaw44.ExpandNone', WHERE WHAT IT READS IS OF BULK AT MOST 1048576: true; the input reads as it did. -/
def expandNoneUptoRow : OpenClaim := { program := "ytofaghpflmeblaa", sum := "26b74b3293460038fccdcb6e1c8f95682a07fbc5045aa2b962b7f29a251996d7", func := "userplane/userplanelaw44.ExpandNone", spec := "expandNone", unfollowed := true, recurses := true, apart := false, narrowed := true }
def ExpandNoneUptoSaid : Prop := expandNoneUptoRow.holds Try.pinned (OpenSpec.upto expandNoneSpec)

/-- 'userplanelaw44.ExpandBack', WHERE WHAT IT READS IS OF BULK AT MOST 1048576: true; the input reads as it did. -/
def expandBackUptoRow : OpenClaim := { program := "ytofaghpflmeblaa", sum := "26b74b3293460038fccdcb6e1c8f95682a07fbc5045aa2b962b7f29a251996d7", func := "userplane/userplanelaw44.ExpandBack", spec := "expandBack", unfollowed := true, recurses := true, apart := false, narrowed := true }
def ExpandBackUptoSaid : Prop := expandBackUptoRow.holds Try.pinned (OpenSpec.upto expandBackSpec)

/-- 'userplanelaw44.ExpandHolds', WHERE WHAT IT READS IS OF BULK AT MOST 1048576: true; the input reads as it did. -/
def expandHoldsUptoRow : OpenClaim := { program := "ytofaghpflmeblaa", sum := "26b74b3293460038fccdcb6e1c8f95682a07fbc5045aa2b962b7f29a251996d7", func := "userplane/userplanelaw44.ExpandHolds", spec := "expandHolds", unfollowed := true, recurses := true, apart := false, narrowed := true }
def ExpandHoldsUptoSaid : Prop := expandHoldsUptoRow.holds Try.pinned (OpenSpec.upto expandHoldsSpec)

end Rows
end Go.Proofs.Ytofaghpflmeblaa

/-
  No cell of these rows narrows 'for every input' (looked for: loops, veiled, ifaces, maps, wideKeys, modest, calm, conditions, laid).
  DERIVED. THE GIVEN ROWS OF THIS SEAT. 11 by the template 'for every input the law returns true; each argument reads behind the call as it read before'; 0 by the template 'total and deterministic' (their statements: YtiffminhlimajaaGreatTotals.lean).
  GIVEN WITH THE SEED: the statements are not yours to turn. If you find one false, say at which input.
  Laid BY PROGRAM, IN A SANDBOX (cutbox-rows.mjs): the forced cells as the released guide's own fill.sh prints them over the translation e11d826aa95ba46d… (all of the seat's roots in one cut). By AI agents, Wed Nov 11 2026. No macro, syntax, notation, axiom, sorry.
-/
import Derived.Test.YtiffminhlimajaaGreatChecked
import GoSem.Claim
import GoSem.ClaimJoined
import GoSem.ClaimMapViews
import Derived.JoinedTies
import Derived.KernelRfl
namespace Go.Proofs.YtiffminhlimajaaGreat
/- THE CELL 'sum', in the pinned program and in every row, IS THE sha256 OF THE DUMP (.gsa) THAT YtiffminhlimajaaGreatProg.lean LOADS. Nothing in Lean hashes anything: it is a label: what it is worth is what the hold of that sum in a sandbox is worth. -/
noncomputable def Tryz.pinned : Pinned := { name := "ytiffminhlimajaagreat", sum := "e11d826aa95ba46d1d38e07cd5a30f0a39bec072331d1043f5fc775c2c46a5a7", checked := Tryz.checked }
namespace Rows
def none {H : Type} : Left H := { results := [], args := [] }

/-- 'userplanelaw45.PdcptxOpens': WHATEVER THE INPUT: true; the input reads as it did. -/
def pdcptxOpensSpec : ChangeSpec := { name := "pdcptxOpens", fn := fun _ => fun
  | [d1, d2, d3] => { results := [.lit (.bool true)], args := [d1, d2, d3] }
  | _ => none }
def pdcptxOpensRow : OpenClaim := { program := "ytiffminhlimajaagreat", sum := "e11d826aa95ba46d1d38e07cd5a30f0a39bec072331d1043f5fc775c2c46a5a7", func := "userplane/userplanelaw45.PdcptxOpens", spec := "pdcptxOpens", unfollowed := true, recurses := true, plainKeys := false, apart := false }
def PdcptxOpensSaid : Prop := pdcptxOpensRow.holds Tryz.pinned (OpenSpec.ofChange pdcptxOpensSpec)

/-- ITS FALSE NEIGHBOUR: 'it returns false'. Refute it at one input. -/
def pdcptxOpensWrong : ChangeSpec := { name := "pdcptxOpens", fn := fun _ => fun
  | [d1, d2, d3] => { results := [.lit (.bool false)], args := [d1, d2, d3] }
  | _ => none }
def PdcptxOpensWrongFalsely : Prop := pdcptxOpensRow.holds Tryz.pinned (OpenSpec.ofChange pdcptxOpensWrong)

/-- 'userplanelaw45.PdcptxWindow': WHATEVER THE INPUT: true; the input reads as it did. -/
def pdcptxWindowSpec : ChangeSpec := { name := "pdcptxWindow", fn := fun _ => fun
  | [d1, d2] => { results := [.lit (.bool true)], args := [d1, d2] }
  | _ => none }
def pdcptxWindowRow : OpenClaim := { program := "ytiffminhlimajaagreat", sum := "e11d826aa95ba46d1d38e07cd5a30f0a39bec072331d1043f5fc775c2c46a5a7", func := "userplane/userplanelaw45.PdcptxWindow", spec := "pdcptxWindow", unfollowed := true, recurses := true, plainKeys := false, apart := false }
def PdcptxWindowSaid : Prop := pdcptxWindowRow.holds Tryz.pinned (OpenSpec.ofChange pdcptxWindowSpec)

/-- ITS FALSE NEIGHBOUR: 'it returns false'. Refute it at one input. -/
def pdcptxWindowWrong : ChangeSpec := { name := "pdcptxWindow", fn := fun _ => fun
  | [d1, d2] => { results := [.lit (.bool false)], args := [d1, d2] }
  | _ => none }
def PdcptxWindowWrongFalsely : Prop := pdcptxWindowRow.holds Tryz.pinned (OpenSpec.ofChange pdcptxWindowWrong)

/-- 'userplanelaw45.PdcptxExpires': WHATEVER THE INPUT: true; the input reads as it did. -/
def pdcptxExpiresSpec : ChangeSpec := { name := "pdcptxExpires", fn := fun _ => fun
  | [d1, d2, d3] => { results := [.lit (.bool true)], args := [d1, d2, d3] }
  | _ => none }
def pdcptxExpiresRow : OpenClaim := { program := "ytiffminhlimajaagreat", sum := "e11d826aa95ba46d1d38e07cd5a30f0a39bec072331d1043f5fc775c2c46a5a7", func := "userplane/userplanelaw45.PdcptxExpires", spec := "pdcptxExpires", unfollowed := true, recurses := true, plainKeys := false, apart := false }
def PdcptxExpiresSaid : Prop := pdcptxExpiresRow.holds Tryz.pinned (OpenSpec.ofChange pdcptxExpiresSpec)

/-- ITS FALSE NEIGHBOUR: 'it returns false'. Refute it at one input. -/
def pdcptxExpiresWrong : ChangeSpec := { name := "pdcptxExpires", fn := fun _ => fun
  | [d1, d2, d3] => { results := [.lit (.bool false)], args := [d1, d2, d3] }
  | _ => none }
def PdcptxExpiresWrongFalsely : Prop := pdcptxExpiresRow.holds Tryz.pinned (OpenSpec.ofChange pdcptxExpiresWrong)

/-- 'userplanelaw45.PdcptxOwn': WHATEVER THE INPUT: true; the input reads as it did. -/
def pdcptxOwnSpec : ChangeSpec := { name := "pdcptxOwn", fn := fun _ => fun
  | [d1, d2] => { results := [.lit (.bool true)], args := [d1, d2] }
  | _ => none }
def pdcptxOwnRow : OpenClaim := { program := "ytiffminhlimajaagreat", sum := "e11d826aa95ba46d1d38e07cd5a30f0a39bec072331d1043f5fc775c2c46a5a7", func := "userplane/userplanelaw45.PdcptxOwn", spec := "pdcptxOwn", unfollowed := true, recurses := true, plainKeys := false, apart := false }
def PdcptxOwnSaid : Prop := pdcptxOwnRow.holds Tryz.pinned (OpenSpec.ofChange pdcptxOwnSpec)

/-- ITS FALSE NEIGHBOUR: 'it returns false'. Refute it at one input. -/
def pdcptxOwnWrong : ChangeSpec := { name := "pdcptxOwn", fn := fun _ => fun
  | [d1, d2] => { results := [.lit (.bool false)], args := [d1, d2] }
  | _ => none }
def PdcptxOwnWrongFalsely : Prop := pdcptxOwnRow.holds Tryz.pinned (OpenSpec.ofChange pdcptxOwnWrong)

/-- 'userplanelaw45.PdcptxValid': WHATEVER THE INPUT: true; the input reads as it did. -/
def pdcptxValidSpec : ChangeSpec := { name := "pdcptxValid", fn := fun _ => fun
  | [d] => { results := [.lit (.bool true)], args := [d] }
  | _ => none }
def pdcptxValidRow : OpenClaim := { program := "ytiffminhlimajaagreat", sum := "e11d826aa95ba46d1d38e07cd5a30f0a39bec072331d1043f5fc775c2c46a5a7", func := "userplane/userplanelaw45.PdcptxValid", spec := "pdcptxValid", unfollowed := true, recurses := true, plainKeys := false, apart := false }
def PdcptxValidSaid : Prop := pdcptxValidRow.holds Tryz.pinned (OpenSpec.ofChange pdcptxValidSpec)

/-- ITS FALSE NEIGHBOUR: 'it returns false'. Refute it at one input. -/
def pdcptxValidWrong : ChangeSpec := { name := "pdcptxValid", fn := fun _ => fun
  | [d] => { results := [.lit (.bool false)], args := [d] }
  | _ => none }
def PdcptxValidWrongFalsely : Prop := pdcptxValidRow.holds Tryz.pinned (OpenSpec.ofChange pdcptxValidWrong)

/-- 'userplanelaw45.PdcptxEnds': WHATEVER THE INPUT: true; the input reads as it did. -/
def pdcptxEndsSpec : ChangeSpec := { name := "pdcptxEnds", fn := fun _ => fun
  | [d1, d2, d3] => { results := [.lit (.bool true)], args := [d1, d2, d3] }
  | _ => none }
def pdcptxEndsRow : OpenClaim := { program := "ytiffminhlimajaagreat", sum := "e11d826aa95ba46d1d38e07cd5a30f0a39bec072331d1043f5fc775c2c46a5a7", func := "userplane/userplanelaw45.PdcptxEnds", spec := "pdcptxEnds", unfollowed := true, recurses := true, plainKeys := false, apart := false }
def PdcptxEndsSaid : Prop := pdcptxEndsRow.holds Tryz.pinned (OpenSpec.ofChange pdcptxEndsSpec)

/-- ITS FALSE NEIGHBOUR: 'it returns false'. Refute it at one input. -/
def pdcptxEndsWrong : ChangeSpec := { name := "pdcptxEnds", fn := fun _ => fun
  | [d1, d2, d3] => { results := [.lit (.bool false)], args := [d1, d2, d3] }
  | _ => none }
def PdcptxEndsWrongFalsely : Prop := pdcptxEndsRow.holds Tryz.pinned (OpenSpec.ofChange pdcptxEndsWrong)

/-- 'userplanelaw45.PdcptxUnique': WHATEVER THE INPUT: true; the input reads as it did. -/
def pdcptxUniqueSpec : ChangeSpec := { name := "pdcptxUnique", fn := fun _ => fun
  | [d1, d2] => { results := [.lit (.bool true)], args := [d1, d2] }
  | _ => none }
def pdcptxUniqueRow : OpenClaim := { program := "ytiffminhlimajaagreat", sum := "e11d826aa95ba46d1d38e07cd5a30f0a39bec072331d1043f5fc775c2c46a5a7", func := "userplane/userplanelaw45.PdcptxUnique", spec := "pdcptxUnique", unfollowed := true, recurses := true, plainKeys := false, apart := false }
def PdcptxUniqueSaid : Prop := pdcptxUniqueRow.holds Tryz.pinned (OpenSpec.ofChange pdcptxUniqueSpec)

/-- ITS FALSE NEIGHBOUR: 'it returns false'. Refute it at one input. -/
def pdcptxUniqueWrong : ChangeSpec := { name := "pdcptxUnique", fn := fun _ => fun
  | [d1, d2] => { results := [.lit (.bool false)], args := [d1, d2] }
  | _ => none }
def PdcptxUniqueWrongFalsely : Prop := pdcptxUniqueRow.holds Tryz.pinned (OpenSpec.ofChange pdcptxUniqueWrong)

/-- 'userplanelaw45.PdcptxPlays': WHATEVER THE INPUT: true; the input reads as it did. -/
def pdcptxPlaysSpec : ChangeSpec := { name := "pdcptxPlays", fn := fun _ => fun
  | [d1, d2, d3] => { results := [.lit (.bool true)], args := [d1, d2, d3] }
  | _ => none }
def pdcptxPlaysRow : OpenClaim := { program := "ytiffminhlimajaagreat", sum := "e11d826aa95ba46d1d38e07cd5a30f0a39bec072331d1043f5fc775c2c46a5a7", func := "userplane/userplanelaw45.PdcptxPlays", spec := "pdcptxPlays", unfollowed := true, recurses := true, plainKeys := false, apart := false }
def PdcptxPlaysSaid : Prop := pdcptxPlaysRow.holds Tryz.pinned (OpenSpec.ofChange pdcptxPlaysSpec)

/-- ITS FALSE NEIGHBOUR: 'it returns false'. Refute it at one input. -/
def pdcptxPlaysWrong : ChangeSpec := { name := "pdcptxPlays", fn := fun _ => fun
  | [d1, d2, d3] => { results := [.lit (.bool false)], args := [d1, d2, d3] }
  | _ => none }
def PdcptxPlaysWrongFalsely : Prop := pdcptxPlaysRow.holds Tryz.pinned (OpenSpec.ofChange pdcptxPlaysWrong)

/-- 'userplanelaw45.PdcptxCopies': WHATEVER THE INPUT: true; the input reads as it did. -/
def pdcptxCopiesSpec : ChangeSpec := { name := "pdcptxCopies", fn := fun _ => fun
  | [d1, d2, d3] => { results := [.lit (.bool true)], args := [d1, d2, d3] }
  | _ => none }
def pdcptxCopiesRow : OpenClaim := { program := "ytiffminhlimajaagreat", sum := "e11d826aa95ba46d1d38e07cd5a30f0a39bec072331d1043f5fc775c2c46a5a7", func := "userplane/userplanelaw45.PdcptxCopies", spec := "pdcptxCopies", inPlace := ["maps.clone"], unfollowed := true, recurses := true, plainKeys := false, apart := false }
def PdcptxCopiesSaid : Prop := pdcptxCopiesRow.holds Tryz.pinned (OpenSpec.ofChange pdcptxCopiesSpec)

/-- ITS FALSE NEIGHBOUR: 'it returns false'. Refute it at one input. -/
def pdcptxCopiesWrong : ChangeSpec := { name := "pdcptxCopies", fn := fun _ => fun
  | [d1, d2, d3] => { results := [.lit (.bool false)], args := [d1, d2, d3] }
  | _ => none }
def PdcptxCopiesWrongFalsely : Prop := pdcptxCopiesRow.holds Tryz.pinned (OpenSpec.ofChange pdcptxCopiesWrong)

/-- 'userplanelaw45.PdcptxNil': WHATEVER THE INPUT: true; the input reads as it did. -/
def pdcptxNilSpec : ChangeSpec := { name := "pdcptxNil", fn := fun _ => fun
  | [d1, d2] => { results := [.lit (.bool true)], args := [d1, d2] }
  | _ => none }
def pdcptxNilRow : OpenClaim := { program := "ytiffminhlimajaagreat", sum := "e11d826aa95ba46d1d38e07cd5a30f0a39bec072331d1043f5fc775c2c46a5a7", func := "userplane/userplanelaw45.PdcptxNil", spec := "pdcptxNil", inPlace := ["maps.clone"], unfollowed := true, recurses := true, plainKeys := false, apart := false }
def PdcptxNilSaid : Prop := pdcptxNilRow.holds Tryz.pinned (OpenSpec.ofChange pdcptxNilSpec)

/-- ITS FALSE NEIGHBOUR: 'it returns false'. Refute it at one input. -/
def pdcptxNilWrong : ChangeSpec := { name := "pdcptxNil", fn := fun _ => fun
  | [d1, d2] => { results := [.lit (.bool false)], args := [d1, d2] }
  | _ => none }
def PdcptxNilWrongFalsely : Prop := pdcptxNilRow.holds Tryz.pinned (OpenSpec.ofChange pdcptxNilWrong)

/-- 'userplanelaw47.HandoverSides': WHATEVER THE INPUT: true; the input reads as it did. -/
def handoverSidesSpec : ChangeSpec := { name := "handoverSides", fn := fun _ => fun
  | [d1, d2, d3] => { results := [.lit (.bool true)], args := [d1, d2, d3] }
  | _ => none }
def handoverSidesRow : OpenClaim := { program := "ytiffminhlimajaagreat", sum := "e11d826aa95ba46d1d38e07cd5a30f0a39bec072331d1043f5fc775c2c46a5a7", func := "userplane/userplanelaw47.HandoverSides", spec := "handoverSides", unfollowed := true, recurses := true, plainKeys := false, apart := false }
def HandoverSidesSaid : Prop := handoverSidesRow.holds Tryz.pinned (OpenSpec.ofChange handoverSidesSpec)

/-- ITS FALSE NEIGHBOUR: 'it returns false'. Refute it at one input. -/
def handoverSidesWrong : ChangeSpec := { name := "handoverSides", fn := fun _ => fun
  | [d1, d2, d3] => { results := [.lit (.bool false)], args := [d1, d2, d3] }
  | _ => none }
def HandoverSidesWrongFalsely : Prop := handoverSidesRow.holds Tryz.pinned (OpenSpec.ofChange handoverSidesWrong)

/- THE SECOND FORM. 'bulk': how many values and letters a reading holds, each counted each time it is reached (what is shared counts as often as it is met; a slice's spare places count too). A statement '..UptoSaid' is the law's where the arguments, and the package variables that the reading takes, are together of bulk at most 1048576: NARROWER than '..Said'. Prove '..Said' where nothing that the law and all that it calls make is longer than what came in: it says more and counts as full. Else prove '..UptoSaid'. A law counts once. -/
mutual
def uptoBulk {H : Type} : DataW H → Nat
  | .lit (.string bytes) => bytes.length + 1
  | .lit _ => 1
  | .nil => 1
  | .ptr d => uptoBulk d + 1
  | .slice elems spare => uptoBulkAll elems + uptoBulkAll spare + 1
  | .agg parts => uptoBulkAll parts + 1
  | .iface _ d => uptoBulk d + 1
  | .map entries => uptoBulkEntries entries + 1
  | .held _ => 1
def uptoBulkAll {H : Type} : List (DataW H) → Nat
  | [] => 0
  | d :: r => uptoBulk d + uptoBulkAll r
def uptoBulkEntries {H : Type} : List (Lit × DataW H) → Nat
  | [] => 0
  | x :: r => uptoBulkEntry x + uptoBulkEntries r
def uptoBulkEntry {H : Type} : Lit × DataW H → Nat
  | (.string bytes, d) => bytes.length + uptoBulk d + 1
  | (_, d) => uptoBulk d + 1
 end
def uptoSmall : (H : Type) → List (DataW H) → Bool := fun _ ds => decide (uptoBulkAll ds ≤ 1048576)
def OpenSpec.upto (s : _root_.Go.ChangeSpec) : _root_.Go.OpenSpec := { _root_.Go.OpenSpec.ofChange s with cond := some uptoSmall }

/-- 'userplanelaw45.PdcptxOpens', WHERE WHAT IT READS IS OF BULK AT MOST 1048576: true; the input reads as it did. -/
def pdcptxOpensUptoRow : OpenClaim := { program := "ytiffminhlimajaagreat", sum := "e11d826aa95ba46d1d38e07cd5a30f0a39bec072331d1043f5fc775c2c46a5a7", func := "userplane/userplanelaw45.PdcptxOpens", spec := "pdcptxOpens", unfollowed := true, recurses := true, plainKeys := false, apart := false, narrowed := true }
def PdcptxOpensUptoSaid : Prop := pdcptxOpensUptoRow.holds Tryz.pinned (OpenSpec.upto pdcptxOpensSpec)

/-- 'userplanelaw45.PdcptxWindow', WHERE WHAT IT READS IS OF BULK AT MOST 1048576: true; the input reads as it did. -/
def pdcptxWindowUptoRow : OpenClaim := { program := "ytiffminhlimajaagreat", sum := "e11d826aa95ba46d1d38e07cd5a30f0a39bec072331d1043f5fc775c2c46a5a7", func := "userplane/userplanelaw45.PdcptxWindow", spec := "pdcptxWindow", unfollowed := true, recurses := true, plainKeys := false, apart := false, narrowed := true }
def PdcptxWindowUptoSaid : Prop := pdcptxWindowUptoRow.holds Tryz.pinned (OpenSpec.upto pdcptxWindowSpec)

/-- 'userplanelaw45.PdcptxExpires', WHERE WHAT IT READS IS OF BULK AT MOST 1048576: true; the input reads as it did. -/
def pdcptxExpiresUptoRow : OpenClaim := { program := "ytiffminhlimajaagreat", sum := "e11d826aa95ba46d1d38e07cd5a30f0a39bec072331d1043f5fc775c2c46a5a7", func := "userplane/userplanelaw45.PdcptxExpires", spec := "pdcptxExpires", unfollowed := true, recurses := true, plainKeys := false, apart := false, narrowed := true }
def PdcptxExpiresUptoSaid : Prop := pdcptxExpiresUptoRow.holds Tryz.pinned (OpenSpec.upto pdcptxExpiresSpec)

/-- 'userplanelaw45.PdcptxOwn', WHERE WHAT IT READS IS OF BULK AT MOST 1048576: true; the input reads as it did. -/
def pdcptxOwnUptoRow : OpenClaim := { program := "ytiffminhlimajaagreat", sum := "e11d826aa95ba46d1d38e07cd5a30f0a39bec072331d1043f5fc775c2c46a5a7", func := "userplane/userplanelaw45.PdcptxOwn", spec := "pdcptxOwn", unfollowed := true, recurses := true, plainKeys := false, apart := false, narrowed := true }
def PdcptxOwnUptoSaid : Prop := pdcptxOwnUptoRow.holds Tryz.pinned (OpenSpec.upto pdcptxOwnSpec)

/-- 'userplanelaw45.PdcptxValid', WHERE WHAT IT READS IS OF BULK AT MOST 1048576: true; the input reads as it did. -/
def pdcptxValidUptoRow : OpenClaim := { program := "ytiffminhlimajaagreat", sum := "e11d826aa95ba46d1d38e07cd5a30f0a39bec072331d1043f5fc775c2c46a5a7", func := "userplane/userplanelaw45.PdcptxValid", spec := "pdcptxValid", unfollowed := true, recurses := true, plainKeys := false, apart := false, narrowed := true }
def PdcptxValidUptoSaid : Prop := pdcptxValidUptoRow.holds Tryz.pinned (OpenSpec.upto pdcptxValidSpec)

/-- 'userplanelaw45.PdcptxEnds', WHERE WHAT IT READS IS OF BULK AT MOST 1048576: true; the input reads as it did. -/
def pdcptxEndsUptoRow : OpenClaim := { program := "ytiffminhlimajaagreat", sum := "e11d826aa95ba46d1d38e07cd5a30f0a39bec072331d1043f5fc775c2c46a5a7", func := "userplane/userplanelaw45.PdcptxEnds", spec := "pdcptxEnds", unfollowed := true, recurses := true, plainKeys := false, apart := false, narrowed := true }
def PdcptxEndsUptoSaid : Prop := pdcptxEndsUptoRow.holds Tryz.pinned (OpenSpec.upto pdcptxEndsSpec)

/-- 'userplanelaw45.PdcptxUnique', WHERE WHAT IT READS IS OF BULK AT MOST 1048576: true; the input reads as it did. -/
def pdcptxUniqueUptoRow : OpenClaim := { program := "ytiffminhlimajaagreat", sum := "e11d826aa95ba46d1d38e07cd5a30f0a39bec072331d1043f5fc775c2c46a5a7", func := "userplane/userplanelaw45.PdcptxUnique", spec := "pdcptxUnique", unfollowed := true, recurses := true, plainKeys := false, apart := false, narrowed := true }
def PdcptxUniqueUptoSaid : Prop := pdcptxUniqueUptoRow.holds Tryz.pinned (OpenSpec.upto pdcptxUniqueSpec)

/-- 'userplanelaw45.PdcptxPlays', WHERE WHAT IT READS IS OF BULK AT MOST 1048576: true; the input reads as it did. -/
def pdcptxPlaysUptoRow : OpenClaim := { program := "ytiffminhlimajaagreat", sum := "e11d826aa95ba46d1d38e07cd5a30f0a39bec072331d1043f5fc775c2c46a5a7", func := "userplane/userplanelaw45.PdcptxPlays", spec := "pdcptxPlays", unfollowed := true, recurses := true, plainKeys := false, apart := false, narrowed := true }
def PdcptxPlaysUptoSaid : Prop := pdcptxPlaysUptoRow.holds Tryz.pinned (OpenSpec.upto pdcptxPlaysSpec)

/-- 'userplanelaw45.PdcptxCopies', WHERE WHAT IT READS IS OF BULK AT MOST 1048576: true; the input reads as it did. -/
def pdcptxCopiesUptoRow : OpenClaim := { program := "ytiffminhlimajaagreat", sum := "e11d826aa95ba46d1d38e07cd5a30f0a39bec072331d1043f5fc775c2c46a5a7", func := "userplane/userplanelaw45.PdcptxCopies", spec := "pdcptxCopies", inPlace := ["maps.clone"], unfollowed := true, recurses := true, plainKeys := false, apart := false, narrowed := true }
def PdcptxCopiesUptoSaid : Prop := pdcptxCopiesUptoRow.holds Tryz.pinned (OpenSpec.upto pdcptxCopiesSpec)

/-- 'userplanelaw45.PdcptxNil', WHERE WHAT IT READS IS OF BULK AT MOST 1048576: true; the input reads as it did. -/
def pdcptxNilUptoRow : OpenClaim := { program := "ytiffminhlimajaagreat", sum := "e11d826aa95ba46d1d38e07cd5a30f0a39bec072331d1043f5fc775c2c46a5a7", func := "userplane/userplanelaw45.PdcptxNil", spec := "pdcptxNil", inPlace := ["maps.clone"], unfollowed := true, recurses := true, plainKeys := false, apart := false, narrowed := true }
def PdcptxNilUptoSaid : Prop := pdcptxNilUptoRow.holds Tryz.pinned (OpenSpec.upto pdcptxNilSpec)

/-- 'userplanelaw47.HandoverSides', WHERE WHAT IT READS IS OF BULK AT MOST 1048576: true; the input reads as it did. -/
def handoverSidesUptoRow : OpenClaim := { program := "ytiffminhlimajaagreat", sum := "e11d826aa95ba46d1d38e07cd5a30f0a39bec072331d1043f5fc775c2c46a5a7", func := "userplane/userplanelaw47.HandoverSides", spec := "handoverSides", unfollowed := true, recurses := true, plainKeys := false, apart := false, narrowed := true }
def HandoverSidesUptoSaid : Prop := handoverSidesUptoRow.holds Tryz.pinned (OpenSpec.upto handoverSidesSpec)

end Rows
end Go.Proofs.YtiffminhlimajaaGreat

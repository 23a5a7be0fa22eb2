/-
  No cell of these rows narrows 'for every input' (looked for: loops, veiled, ifaces, maps, wideKeys, modest, calm, conditions, laid).
  DERIVED. THE GIVEN ROWS OF THIS SEAT. 12 by the template 'for every input the law returns true; each argument reads behind the call as it read before'; 0 by the template 'total and deterministic' (their statements: YtejadoadpgcpjaaTotals.lean).
  GIVEN WITH THE SEED: the statements are not yours to turn. If you find one false, say at which input.
  Laid BY PROGRAM, IN A SANDBOX (cutbox-rows.mjs): the forced cells as the released guide's own fill.sh prints them over the translation 1d203df816751d3c… (all of the seat's roots in one cut). By AI agents, Wed Nov 11 2026. No macro, syntax, notation, axiom, sorry.
-/
import Derived.Test.YtejadoadpgcpjaaChecked
import GoSem.Claim
import GoSem.ClaimJoined
import GoSem.ClaimMapViews
import Derived.JoinedTies
import Derived.KernelRfl
namespace Go.Proofs.Ytejadoadpgcpjaa
/- THE CELL 'sum', in the pinned program and in every row, IS THE sha256 OF THE DUMP (.gsa) THAT YtejadoadpgcpjaaProg.lean LOADS. Nothing in Lean hashes anything: it is a label: what it is worth is what the hold of that sum in a sandbox is worth. -/
noncomputable def Try.pinned : Pinned := { name := "ytejadoadpgcpjaa", sum := "1d203df816751d3cfa4693387d96403de2acba3b9a98af6c3356fdde6f027908", checked := Try.checked }
namespace Rows
def none {H : Type} : Left H := { results := [], args := [] }

/-- 'userplanelaw42.HeaderParses': WHATEVER THE INPUT: true; the input reads as it did. -/
def headerParsesSpec : ChangeSpec := { name := "headerParses", fn := fun _ => fun
  | [d] => { results := [.lit (.bool true)], args := [d] }
  | _ => none }
def headerParsesRow : OpenClaim := { program := "ytejadoadpgcpjaa", sum := "1d203df816751d3cfa4693387d96403de2acba3b9a98af6c3356fdde6f027908", func := "userplane/userplanelaw42.HeaderParses", spec := "headerParses", unfollowed := true, recurses := true, plainKeys := false, apart := false }
def HeaderParsesSaid : Prop := headerParsesRow.holds Try.pinned (OpenSpec.ofChange headerParsesSpec)

/-- ITS FALSE NEIGHBOUR: 'it returns false'. Refute it at one input. -/
def headerParsesWrong : ChangeSpec := { name := "headerParses", fn := fun _ => fun
  | [d] => { results := [.lit (.bool false)], args := [d] }
  | _ => none }
def HeaderParsesWrongFalsely : Prop := headerParsesRow.holds Try.pinned (OpenSpec.ofChange headerParsesWrong)

/-- 'userplanelaw42.HeaderBuilds': WHATEVER THE INPUT: true; the input reads as it did. -/
def headerBuildsSpec : ChangeSpec := { name := "headerBuilds", fn := fun _ => fun
  | [d1, d2] => { results := [.lit (.bool true)], args := [d1, d2] }
  | _ => none }
def headerBuildsRow : OpenClaim := { program := "ytejadoadpgcpjaa", sum := "1d203df816751d3cfa4693387d96403de2acba3b9a98af6c3356fdde6f027908", func := "userplane/userplanelaw42.HeaderBuilds", spec := "headerBuilds", unfollowed := true, recurses := true, plainKeys := false, apart := false }
def HeaderBuildsSaid : Prop := headerBuildsRow.holds Try.pinned (OpenSpec.ofChange headerBuildsSpec)

/-- ITS FALSE NEIGHBOUR: 'it returns false'. Refute it at one input. -/
def headerBuildsWrong : ChangeSpec := { name := "headerBuilds", fn := fun _ => fun
  | [d1, d2] => { results := [.lit (.bool false)], args := [d1, d2] }
  | _ => none }
def HeaderBuildsWrongFalsely : Prop := headerBuildsRow.holds Try.pinned (OpenSpec.ofChange headerBuildsWrong)

/-- 'userplanelaw42.HeaderFields': WHATEVER THE INPUT: true; the input reads as it did. -/
def headerFieldsSpec : ChangeSpec := { name := "headerFields", fn := fun _ => fun
  | [d] => { results := [.lit (.bool true)], args := [d] }
  | _ => none }
def headerFieldsRow : OpenClaim := { program := "ytejadoadpgcpjaa", sum := "1d203df816751d3cfa4693387d96403de2acba3b9a98af6c3356fdde6f027908", func := "userplane/userplanelaw42.HeaderFields", spec := "headerFields", unfollowed := true, recurses := true, plainKeys := false, apart := false }
def HeaderFieldsSaid : Prop := headerFieldsRow.holds Try.pinned (OpenSpec.ofChange headerFieldsSpec)

/-- ITS FALSE NEIGHBOUR: 'it returns false'. Refute it at one input. -/
def headerFieldsWrong : ChangeSpec := { name := "headerFields", fn := fun _ => fun
  | [d] => { results := [.lit (.bool false)], args := [d] }
  | _ => none }
def HeaderFieldsWrongFalsely : Prop := headerFieldsRow.holds Try.pinned (OpenSpec.ofChange headerFieldsWrong)

/-- 'userplanelaw42.HeaderBounds': WHATEVER THE INPUT: true; the input reads as it did. -/
def headerBoundsSpec : ChangeSpec := { name := "headerBounds", fn := fun _ => fun
  | [d1, d2] => { results := [.lit (.bool true)], args := [d1, d2] }
  | _ => none }
def headerBoundsRow : OpenClaim := { program := "ytejadoadpgcpjaa", sum := "1d203df816751d3cfa4693387d96403de2acba3b9a98af6c3356fdde6f027908", func := "userplane/userplanelaw42.HeaderBounds", spec := "headerBounds", unfollowed := true, recurses := true, plainKeys := false, apart := false }
def HeaderBoundsSaid : Prop := headerBoundsRow.holds Try.pinned (OpenSpec.ofChange headerBoundsSpec)

/-- ITS FALSE NEIGHBOUR: 'it returns false'. Refute it at one input. -/
def headerBoundsWrong : ChangeSpec := { name := "headerBounds", fn := fun _ => fun
  | [d1, d2] => { results := [.lit (.bool false)], args := [d1, d2] }
  | _ => none }
def HeaderBoundsWrongFalsely : Prop := headerBoundsRow.holds Try.pinned (OpenSpec.ofChange headerBoundsWrong)

/-- 'userplanelaw42.HeaderHolds': WHATEVER THE INPUT: true; the input reads as it did. -/
def headerHoldsSpec : ChangeSpec := { name := "headerHolds", fn := fun _ => fun
  | [d1, d2, d3, d4, d5] => { results := [.lit (.bool true)], args := [d1, d2, d3, d4, d5] }
  | _ => none }
def headerHoldsRow : OpenClaim := { program := "ytejadoadpgcpjaa", sum := "1d203df816751d3cfa4693387d96403de2acba3b9a98af6c3356fdde6f027908", func := "userplane/userplanelaw42.HeaderHolds", spec := "headerHolds", unfollowed := true, recurses := true, plainKeys := false, apart := false }
def HeaderHoldsSaid : Prop := headerHoldsRow.holds Try.pinned (OpenSpec.ofChange headerHoldsSpec)

/-- ITS FALSE NEIGHBOUR: 'it returns false'. Refute it at one input. -/
def headerHoldsWrong : ChangeSpec := { name := "headerHolds", fn := fun _ => fun
  | [d1, d2, d3, d4, d5] => { results := [.lit (.bool false)], args := [d1, d2, d3, d4, d5] }
  | _ => none }
def HeaderHoldsWrongFalsely : Prop := headerHoldsRow.holds Try.pinned (OpenSpec.ofChange headerHoldsWrong)

/-- 'userplanelaw42.HeaderJoins': WHATEVER THE INPUT: true; the input reads as it did. -/
def headerJoinsSpec : ChangeSpec := { name := "headerJoins", fn := fun _ => fun
  | [d] => { results := [.lit (.bool true)], args := [d] }
  | _ => none }
def headerJoinsRow : OpenClaim := { program := "ytejadoadpgcpjaa", sum := "1d203df816751d3cfa4693387d96403de2acba3b9a98af6c3356fdde6f027908", func := "userplane/userplanelaw42.HeaderJoins", spec := "headerJoins", unfollowed := true, recurses := true, plainKeys := false, apart := false }
def HeaderJoinsSaid : Prop := headerJoinsRow.holds Try.pinned (OpenSpec.ofChange headerJoinsSpec)

/-- ITS FALSE NEIGHBOUR: 'it returns false'. Refute it at one input. -/
def headerJoinsWrong : ChangeSpec := { name := "headerJoins", fn := fun _ => fun
  | [d] => { results := [.lit (.bool false)], args := [d] }
  | _ => none }
def HeaderJoinsWrongFalsely : Prop := headerJoinsRow.holds Try.pinned (OpenSpec.ofChange headerJoinsWrong)

/-- 'userplanelaw43.CompressChecks': WHATEVER THE INPUT: true; the input reads as it did. -/
def compressChecksSpec : ChangeSpec := { name := "compressChecks", fn := fun _ => fun
  | [d1, d2] => { results := [.lit (.bool true)], args := [d1, d2] }
  | _ => none }
def compressChecksRow : OpenClaim := { program := "ytejadoadpgcpjaa", sum := "1d203df816751d3cfa4693387d96403de2acba3b9a98af6c3356fdde6f027908", func := "userplane/userplanelaw43.CompressChecks", spec := "compressChecks", unfollowed := true, recurses := true, plainKeys := false, apart := false }
def CompressChecksSaid : Prop := compressChecksRow.holds Try.pinned (OpenSpec.ofChange compressChecksSpec)

/-- ITS FALSE NEIGHBOUR: 'it returns false'. Refute it at one input. -/
def compressChecksWrong : ChangeSpec := { name := "compressChecks", fn := fun _ => fun
  | [d1, d2] => { results := [.lit (.bool false)], args := [d1, d2] }
  | _ => none }
def CompressChecksWrongFalsely : Prop := compressChecksRow.holds Try.pinned (OpenSpec.ofChange compressChecksWrong)

/-- 'userplanelaw43.CompressHolds': WHATEVER THE INPUT: true; the input reads as it did. -/
def compressHoldsSpec : ChangeSpec := { name := "compressHolds", fn := fun _ => fun
  | [d1, d2, d3, d4] => { results := [.lit (.bool true)], args := [d1, d2, d3, d4] }
  | _ => none }
def compressHoldsRow : OpenClaim := { program := "ytejadoadpgcpjaa", sum := "1d203df816751d3cfa4693387d96403de2acba3b9a98af6c3356fdde6f027908", func := "userplane/userplanelaw43.CompressHolds", spec := "compressHolds", unfollowed := true, recurses := true, plainKeys := false, apart := false }
def CompressHoldsSaid : Prop := compressHoldsRow.holds Try.pinned (OpenSpec.ofChange compressHoldsSpec)

/-- ITS FALSE NEIGHBOUR: 'it returns false'. Refute it at one input. -/
def compressHoldsWrong : ChangeSpec := { name := "compressHolds", fn := fun _ => fun
  | [d1, d2, d3, d4] => { results := [.lit (.bool false)], args := [d1, d2, d3, d4] }
  | _ => none }
def CompressHoldsWrongFalsely : Prop := compressHoldsRow.holds Try.pinned (OpenSpec.ofChange compressHoldsWrong)

/-- 'userplanelaw43.CompressPlays': WHATEVER THE INPUT: true; the input reads as it did. -/
def compressPlaysSpec : ChangeSpec := { name := "compressPlays", fn := fun _ => fun
  | [d] => { results := [.lit (.bool true)], args := [d] }
  | _ => none }
def compressPlaysRow : OpenClaim := { program := "ytejadoadpgcpjaa", sum := "1d203df816751d3cfa4693387d96403de2acba3b9a98af6c3356fdde6f027908", func := "userplane/userplanelaw43.CompressPlays", spec := "compressPlays", unfollowed := true, recurses := true, plainKeys := false, apart := false }
def CompressPlaysSaid : Prop := compressPlaysRow.holds Try.pinned (OpenSpec.ofChange compressPlaysSpec)

/-- ITS FALSE NEIGHBOUR: 'it returns false'. Refute it at one input. -/
def compressPlaysWrong : ChangeSpec := { name := "compressPlays", fn := fun _ => fun
  | [d] => { results := [.lit (.bool false)], args := [d] }
  | _ => none }
def CompressPlaysWrongFalsely : Prop := compressPlaysRow.holds Try.pinned (OpenSpec.ofChange compressPlaysWrong)

/-- 'userplanelaw43.CompressContexts': WHATEVER THE INPUT: true; the input reads as it did. -/
def compressContextsSpec : ChangeSpec := { name := "compressContexts", fn := fun _ => fun
  | [d1, d2] => { results := [.lit (.bool true)], args := [d1, d2] }
  | _ => none }
def compressContextsRow : OpenClaim := { program := "ytejadoadpgcpjaa", sum := "1d203df816751d3cfa4693387d96403de2acba3b9a98af6c3356fdde6f027908", func := "userplane/userplanelaw43.CompressContexts", spec := "compressContexts", unfollowed := true, recurses := true, plainKeys := false, apart := false }
def CompressContextsSaid : Prop := compressContextsRow.holds Try.pinned (OpenSpec.ofChange compressContextsSpec)

/-- ITS FALSE NEIGHBOUR: 'it returns false'. Refute it at one input. -/
def compressContextsWrong : ChangeSpec := { name := "compressContexts", fn := fun _ => fun
  | [d1, d2] => { results := [.lit (.bool false)], args := [d1, d2] }
  | _ => none }
def CompressContextsWrongFalsely : Prop := compressContextsRow.holds Try.pinned (OpenSpec.ofChange compressContextsWrong)

/-- 'userplanelaw43.CompressClones': WHATEVER THE INPUT: true; the input reads as it did. -/
def compressClonesSpec : ChangeSpec := { name := "compressClones", fn := fun _ => fun
  | [d1, d2] => { results := [.lit (.bool true)], args := [d1, d2] }
  | _ => none }
def compressClonesRow : OpenClaim := { program := "ytejadoadpgcpjaa", sum := "1d203df816751d3cfa4693387d96403de2acba3b9a98af6c3356fdde6f027908", func := "userplane/userplanelaw43.CompressClones", spec := "compressClones", unfollowed := true, recurses := true, plainKeys := false, apart := false }
def CompressClonesSaid : Prop := compressClonesRow.holds Try.pinned (OpenSpec.ofChange compressClonesSpec)

/-- ITS FALSE NEIGHBOUR: 'it returns false'. Refute it at one input. -/
def compressClonesWrong : ChangeSpec := { name := "compressClones", fn := fun _ => fun
  | [d1, d2] => { results := [.lit (.bool false)], args := [d1, d2] }
  | _ => none }
def CompressClonesWrongFalsely : Prop := compressClonesRow.holds Try.pinned (OpenSpec.ofChange compressClonesWrong)

/-- 'userplanelaw43.CompressNone': WHATEVER THE INPUT: true; the input reads as it did. -/
def compressNoneSpec : ChangeSpec := { name := "compressNone", fn := fun _ => fun
  | [d1, d2] => { results := [.lit (.bool true)], args := [d1, d2] }
  | _ => none }
def compressNoneRow : OpenClaim := { program := "ytejadoadpgcpjaa", sum := "1d203df816751d3cfa4693387d96403de2acba3b9a98af6c3356fdde6f027908", func := "userplane/userplanelaw43.CompressNone", spec := "compressNone", unfollowed := true, recurses := true, plainKeys := false, apart := false }
def CompressNoneSaid : Prop := compressNoneRow.holds Try.pinned (OpenSpec.ofChange compressNoneSpec)

/-- ITS FALSE NEIGHBOUR: 'it returns false'. Refute it at one input. -/
def compressNoneWrong : ChangeSpec := { name := "compressNone", fn := fun _ => fun
  | [d1, d2] => { results := [.lit (.bool false)], args := [d1, d2] }
  | _ => none }
def CompressNoneWrongFalsely : Prop := compressNoneRow.holds Try.pinned (OpenSpec.ofChange compressNoneWrong)

/- THE SECOND FORM. 'bulk': how many values and letters a reading holds, each counted each time it is reached (what is shared counts as often as it is met; a slice's spare places count too). A statement '..UptoSaid' is the law's where the arguments, and the package variables that the reading takes, are together of bulk at most 1048576: NARROWER than '..Said'. Prove '..Said' where nothing that the law and all that it calls make is longer than what came in: it says more and counts as full. Else prove '..UptoSaid'. A law counts once. -/
mutual
def uptoBulk {H : Type} : DataW H → Nat
  | .lit (.string bytes) => bytes.length + 1
  | .lit _ => 1
  | .nil => 1
  | .ptr d => uptoBulk d + 1
  | .slice elems spare => uptoBulkAll elems + uptoBulkAll spare + 1
  | .agg parts => uptoBulkAll parts + 1
  | .iface _ d => uptoBulk d + 1
  | .map entries => uptoBulkEntries entries + 1
  | .held _ => 1
def uptoBulkAll {H : Type} : List (DataW H) → Nat
  | [] => 0
  | d :: r => uptoBulk d + uptoBulkAll r
def uptoBulkEntries {H : Type} : List (Lit × DataW H) → Nat
  | [] => 0
  | x :: r => uptoBulkEntry x + uptoBulkEntries r
def uptoBulkEntry {H : Type} : Lit × DataW H → Nat
  | (.string bytes, d) => bytes.length + uptoBulk d + 1
  | (_, d) => uptoBulk d + 1
 end
def uptoSmall : (H : Type) → List (DataW H) → Bool := fun _ ds => decide (uptoBulkAll ds ≤ 1048576)
def OpenSpec.upto (s : _root_.Go.ChangeSpec) : _root_.Go.OpenSpec := { _root_.Go.OpenSpec.ofChange s with cond := some uptoSmall }

/-- 'userplanelaw42.HeaderParses', WHERE WHAT IT READS IS OF BULK AT MOST 1048576: true; the input reads as it did. -/
def headerParsesUptoRow : OpenClaim := { program := "ytejadoadpgcpjaa", sum := "1d203df816751d3cfa4693387d96403de2acba3b9a98af6c3356fdde6f027908", func := "userplane/userplanelaw42.HeaderParses", spec := "headerParses", unfollowed := true, recurses := true, plainKeys := false, apart := false, narrowed := true }
def HeaderParsesUptoSaid : Prop := headerParsesUptoRow.holds Try.pinned (OpenSpec.upto headerParsesSpec)

/-- 'userplanelaw42.HeaderBuilds', WHERE WHAT IT READS IS OF BULK AT MOST 1048576: true; the input reads as it did. -/
def headerBuildsUptoRow : OpenClaim := { program := "ytejadoadpgcpjaa", sum := "1d203df816751d3cfa4693387d96403de2acba3b9a98af6c3356fdde6f027908", func := "userplane/userplanelaw42.HeaderBuilds", spec := "headerBuilds", unfollowed := true, recurses := true, plainKeys := false, apart := false, narrowed := true }
def HeaderBuildsUptoSaid : Prop := headerBuildsUptoRow.holds Try.pinned (OpenSpec.upto headerBuildsSpec)

/-- 'userplanelaw42.HeaderFields', WHERE WHAT IT READS IS OF BULK AT MOST 1048576: true; the input reads as it did. -/
def headerFieldsUptoRow : OpenClaim := { program := "ytejadoadpgcpjaa", sum := "1d203df816751d3cfa4693387d96403de2acba3b9a98af6c3356fdde6f027908", func := "userplane/userplanelaw42.HeaderFields", spec := "headerFields", unfollowed := true, recurses := true, plainKeys := false, apart := false, narrowed := true }
def HeaderFieldsUptoSaid : Prop := headerFieldsUptoRow.holds Try.pinned (OpenSpec.upto headerFieldsSpec)

/-- 'userplanelaw42.HeaderBounds', WHERE WHAT IT READS IS OF BULK AT MOST 1048576: true; the input reads as it did. -/
def headerBoundsUptoRow : OpenClaim := { program := "ytejadoadpgcpjaa", sum := "1d203df816751d3cfa4693387d96403de2acba3b9a98af6c3356fdde6f027908", func := "userplane/userplanelaw42.HeaderBounds", spec := "headerBounds", unfollowed := true, recurses := true, plainKeys := false, apart := false, narrowed := true }
def HeaderBoundsUptoSaid : Prop := headerBoundsUptoRow.holds Try.pinned (OpenSpec.upto headerBoundsSpec)

/-- 'userplanelaw42.HeaderHolds', WHERE WHAT IT READS IS OF BULK AT MOST 1048576: true; the input reads as it did. -/
def headerHoldsUptoRow : OpenClaim := { program := "ytejadoadpgcpjaa", sum := "1d203df816751d3cfa4693387d96403de2acba3b9a98af6c3356fdde6f027908", func := "userplane/userplanelaw42.HeaderHolds", spec := "headerHolds", unfollowed := true, recurses := true, plainKeys := false, apart := false, narrowed := true }
def HeaderHoldsUptoSaid : Prop := headerHoldsUptoRow.holds Try.pinned (OpenSpec.upto headerHoldsSpec)

/-- 'userplanelaw42.HeaderJoins', WHERE WHAT IT READS IS OF BULK AT MOST 1048576: true; the input reads as it did. -/
def headerJoinsUptoRow : OpenClaim := { program := "ytejadoadpgcpjaa", sum := "1d203df816751d3cfa4693387d96403de2acba3b9a98af6c3356fdde6f027908", func := "userplane/userplanelaw42.HeaderJoins", spec := "headerJoins", unfollowed := true, recurses := true, plainKeys := false, apart := false, narrowed := true }
def HeaderJoinsUptoSaid : Prop := headerJoinsUptoRow.holds Try.pinned (OpenSpec.upto headerJoinsSpec)

/-- 'userplanelaw43.CompressChecks', WHERE WHAT IT READS IS OF BULK AT MOST 1048576: true; the input reads as it did. -/
def compressChecksUptoRow : OpenClaim := { program := "ytejadoadpgcpjaa", sum := "1d203df816751d3cfa4693387d96403de2acba3b9a98af6c3356fdde6f027908", func := "userplane/userplanelaw43.CompressChecks", spec := "compressChecks", unfollowed := true, recurses := true, plainKeys := false, apart := false, narrowed := true }
def CompressChecksUptoSaid : Prop := compressChecksUptoRow.holds Try.pinned (OpenSpec.upto compressChecksSpec)

/-- 'userplanelaw43.CompressHolds', WHERE WHAT IT READS IS OF BULK AT MOST 1048576: true; the input reads as it did. -/
def compressHoldsUptoRow : OpenClaim := { program := "ytejadoadpgcpjaa", sum := "1d203df816751d3cfa4693387d96403de2acba3b9a98af6c3356fdde6f027908", func := "userplane/userplanelaw43.CompressHolds", spec := "compressHolds", unfollowed := true, recurses := true, plainKeys := false, apart := false, narrowed := true }
def CompressHoldsUptoSaid : Prop := compressHoldsUptoRow.holds Try.pinned (OpenSpec.upto compressHoldsSpec)

/-- 'userplanelaw43.CompressPlays', WHERE WHAT IT READS IS OF BULK AT MOST 1048576: true; the input reads as it did. -/
def compressPlaysUptoRow : OpenClaim := { program := "ytejadoadpgcpjaa", sum := "1d203df816751d3cfa4693387d96403de2acba3b9a98af6c3356fdde6f027908", func := "userplane/userplanelaw43.CompressPlays", spec := "compressPlays", unfollowed := true, recurses := true, plainKeys := false, apart := false, narrowed := true }
def CompressPlaysUptoSaid : Prop := compressPlaysUptoRow.holds Try.pinned (OpenSpec.upto compressPlaysSpec)

/-- 'userplanelaw43.CompressContexts', WHERE WHAT IT READS IS OF BULK AT MOST 1048576: true; the input reads as it did. -/
def compressContextsUptoRow : OpenClaim := { program := "ytejadoadpgcpjaa", sum := "1d203df816751d3cfa4693387d96403de2acba3b9a98af6c3356fdde6f027908", func := "userplane/userplanelaw43.CompressContexts", spec := "compressContexts", unfollowed := true, recurses := true, plainKeys := false, apart := false, narrowed := true }
def CompressContextsUptoSaid : Prop := compressContextsUptoRow.holds Try.pinned (OpenSpec.upto compressContextsSpec)

/-- 'userplanelaw43.CompressClones', WHERE WHAT IT READS IS OF BULK AT MOST 1048576: true; the input reads as it did. -/
def compressClonesUptoRow : OpenClaim := { program := "ytejadoadpgcpjaa", sum := "1d203df816751d3cfa4693387d96403de2acba3b9a98af6c3356fdde6f027908", func := "userplane/userplanelaw43.CompressClones", spec := "compressClones", unfollowed := true, recurses := true, plainKeys := false, apart := false, narrowed := true }
def CompressClonesUptoSaid : Prop := compressClonesUptoRow.holds Try.pinned (OpenSpec.upto compressClonesSpec)

/-- 'userplanelaw43.CompressNone', WHERE WHAT IT READS IS OF BULK AT MOST 1048576: true; the input reads as it did. -/
def compressNoneUptoRow : OpenClaim := { program := "ytejadoadpgcpjaa", sum := "1d203df816751d3cfa4693387d96403de2acba3b9a98af6c3356fdde6f027908", func := "userplane/userplanelaw43.CompressNone", spec := "compressNone", unfollowed := true, recurses := true, plainKeys := false, apart := false, narrowed := true }
def CompressNoneUptoSaid : Prop := compressNoneUptoRow.holds Try.pinned (OpenSpec.upto compressNoneSpec)

end Rows
end Go.Proofs.Ytejadoadpgcpjaa

/-
  No cell of these rows narrows 'for every input' (looked for: loops, veiled, ifaces, maps, wideKeys, modest, calm, conditions, laid).
  DERIVED. THE GIVEN ROWS OF THIS SEAT. 4 by the template 'for every input the law returns true; each argument reads behind the call as it read before'; 0 by the template 'total and deterministic' (their statements: YtnadmdadcpemnaaGreatTotals.lean).
  GIVEN WITH THE SEED: the statements are not yours to turn. If you find one false, say at which input.
  Laid BY PROGRAM, IN A SANDBOX (cutbox-rows.mjs): the forced cells as the released guide's own fill.sh prints them over the translation ff6c1ea63f982a9e… (all of the seat's roots in one cut). By AI agents, Wed Nov 11 2026. No macro, syntax, notation, axiom, sorry.
-/
import Derived.Test.YtnadmdadcpemnaaGreatChecked
import GoSem.Claim
import GoSem.ClaimJoined
import GoSem.ClaimMapViews
import Derived.JoinedTies
import Derived.KernelRfl
namespace Go.Proofs.YtnadmdadcpemnaaGreat
/- THE CELL 'sum', in the pinned program and in every row, IS THE sha256 OF THE DUMP (.gsa) THAT YtnadmdadcpemnaaGreatProg.lean LOADS. Nothing in Lean hashes anything: it is a label: what it is worth is what the hold of that sum in a sandbox is worth. -/
noncomputable def Tryz.pinned : Pinned := { name := "ytnadmdadcpemnaagreat", sum := "ff6c1ea63f982a9ebbdc1c8f3eafb26825db2f1c98a0a88cc2901f9153dc81bc", checked := Tryz.checked }
namespace Rows
def none {H : Type} : Left H := { results := [], args := [] }

/-- 'userplanelaw46.PdcprxLosses': WHATEVER THE INPUT: true; the input reads as it did. -/
def pdcprxLossesSpec : ChangeSpec := { name := "pdcprxLosses", fn := fun _ => fun
  | [d1, d2, d3, d4] => { results := [.lit (.bool true)], args := [d1, d2, d3, d4] }
  | _ => none }
def pdcprxLossesRow : OpenClaim := { program := "ytnadmdadcpemnaagreat", sum := "ff6c1ea63f982a9ebbdc1c8f3eafb26825db2f1c98a0a88cc2901f9153dc81bc", func := "userplane/userplanelaw46.PdcprxLosses", spec := "pdcprxLosses", unfollowed := true, recurses := true, plainKeys := false, apart := false }
def PdcprxLossesSaid : Prop := pdcprxLossesRow.holds Tryz.pinned (OpenSpec.ofChange pdcprxLossesSpec)

/-- ITS FALSE NEIGHBOUR: 'it returns false'. Refute it at one input. -/
def pdcprxLossesWrong : ChangeSpec := { name := "pdcprxLosses", fn := fun _ => fun
  | [d1, d2, d3, d4] => { results := [.lit (.bool false)], args := [d1, d2, d3, d4] }
  | _ => none }
def PdcprxLossesWrongFalsely : Prop := pdcprxLossesRow.holds Tryz.pinned (OpenSpec.ofChange pdcprxLossesWrong)

/-- 'userplanelaw46.PdcprxRefuses': WHATEVER THE INPUT: true; the input reads as it did. -/
def pdcprxRefusesSpec : ChangeSpec := { name := "pdcprxRefuses", fn := fun _ => fun
  | [d1, d2, d3] => { results := [.lit (.bool true)], args := [d1, d2, d3] }
  | _ => none }
def pdcprxRefusesRow : OpenClaim := { program := "ytnadmdadcpemnaagreat", sum := "ff6c1ea63f982a9ebbdc1c8f3eafb26825db2f1c98a0a88cc2901f9153dc81bc", func := "userplane/userplanelaw46.PdcprxRefuses", spec := "pdcprxRefuses", unfollowed := true, recurses := true, plainKeys := false, apart := false }
def PdcprxRefusesSaid : Prop := pdcprxRefusesRow.holds Tryz.pinned (OpenSpec.ofChange pdcprxRefusesSpec)

/-- ITS FALSE NEIGHBOUR: 'it returns false'. Refute it at one input. -/
def pdcprxRefusesWrong : ChangeSpec := { name := "pdcprxRefuses", fn := fun _ => fun
  | [d1, d2, d3] => { results := [.lit (.bool false)], args := [d1, d2, d3] }
  | _ => none }
def PdcprxRefusesWrongFalsely : Prop := pdcprxRefusesRow.holds Tryz.pinned (OpenSpec.ofChange pdcprxRefusesWrong)

/-- 'userplanelaw46.PdcprxCopies': WHATEVER THE INPUT: true; the input reads as it did. -/
def pdcprxCopiesSpec : ChangeSpec := { name := "pdcprxCopies", fn := fun _ => fun
  | [d1, d2, d3] => { results := [.lit (.bool true)], args := [d1, d2, d3] }
  | _ => none }
def pdcprxCopiesRow : OpenClaim := { program := "ytnadmdadcpemnaagreat", sum := "ff6c1ea63f982a9ebbdc1c8f3eafb26825db2f1c98a0a88cc2901f9153dc81bc", func := "userplane/userplanelaw46.PdcprxCopies", spec := "pdcprxCopies", inPlace := ["maps.clone"], unfollowed := true, recurses := true, plainKeys := false, apart := false }
def PdcprxCopiesSaid : Prop := pdcprxCopiesRow.holds Tryz.pinned (OpenSpec.ofChange pdcprxCopiesSpec)

/-- ITS FALSE NEIGHBOUR: 'it returns false'. Refute it at one input. -/
def pdcprxCopiesWrong : ChangeSpec := { name := "pdcprxCopies", fn := fun _ => fun
  | [d1, d2, d3] => { results := [.lit (.bool false)], args := [d1, d2, d3] }
  | _ => none }
def PdcprxCopiesWrongFalsely : Prop := pdcprxCopiesRow.holds Tryz.pinned (OpenSpec.ofChange pdcprxCopiesWrong)

/-- 'userplanelaw46.PdcprxPlays': WHATEVER THE INPUT: true; the input reads as it did. -/
def pdcprxPlaysSpec : ChangeSpec := { name := "pdcprxPlays", fn := fun _ => fun
  | [d1, d2, d3] => { results := [.lit (.bool true)], args := [d1, d2, d3] }
  | _ => none }
def pdcprxPlaysRow : OpenClaim := { program := "ytnadmdadcpemnaagreat", sum := "ff6c1ea63f982a9ebbdc1c8f3eafb26825db2f1c98a0a88cc2901f9153dc81bc", func := "userplane/userplanelaw46.PdcprxPlays", spec := "pdcprxPlays", unfollowed := true, recurses := true, plainKeys := false, apart := false }
def PdcprxPlaysSaid : Prop := pdcprxPlaysRow.holds Tryz.pinned (OpenSpec.ofChange pdcprxPlaysSpec)

/-- ITS FALSE NEIGHBOUR: 'it returns false'. Refute it at one input. -/
def pdcprxPlaysWrong : ChangeSpec := { name := "pdcprxPlays", fn := fun _ => fun
  | [d1, d2, d3] => { results := [.lit (.bool false)], args := [d1, d2, d3] }
  | _ => none }
def PdcprxPlaysWrongFalsely : Prop := pdcprxPlaysRow.holds Tryz.pinned (OpenSpec.ofChange pdcprxPlaysWrong)

/- THE SECOND FORM. 'bulk': how many values and letters a reading holds, each counted each time it is reached (what is shared counts as often as it is met; a slice's spare places count too). A statement '..UptoSaid' is the law's where the arguments, and the package variables that the reading takes, are together of bulk at most 1048576: NARROWER than '..Said'. Prove '..Said' where nothing that the law and all that it calls make is longer than what came in: it says more and counts as full. Else prove '..UptoSaid'. A law counts once. -/
mutual
def uptoBulk {H : Type} : DataW H → Nat
  | .lit (.string bytes) => bytes.length + 1
  | .lit _ => 1
  | .nil => 1
  | .ptr d => uptoBulk d + 1
  | .slice elems spare => uptoBulkAll elems + uptoBulkAll spare + 1
  | .agg parts => uptoBulkAll parts + 1
  | .iface _ d => uptoBulk d + 1
  | .map entries => uptoBulkEntries entries + 1
  | .held _ => 1
def uptoBulkAll {H : Type} : List (DataW H) → Nat
  | [] => 0
  | d :: r => uptoBulk d + uptoBulkAll r
def uptoBulkEntries {H : Type} : List (Lit × DataW H) → Nat
  | [] => 0
  | x :: r => uptoBulkEntry x + uptoBulkEntries r
def uptoBulkEntry {H : Type} : Lit × DataW H → Nat
  | (.string bytes, d) => bytes.length + uptoBulk d + 1
  | (_, d) => uptoBulk d + 1
 end
def uptoSmall : (H : Type) → List (DataW H) → Bool := fun _ ds => decide (uptoBulkAll ds ≤ 1048576)
def OpenSpec.upto (s : _root_.Go.ChangeSpec) : _root_.Go.OpenSpec := { _root_.Go.OpenSpec.ofChange s with cond := some uptoSmall }

/-- 'userplanelaw46.PdcprxLosses', WHERE WHAT IT READS IS OF BULK AT MOST 1048576: true; the input reads as it did. -/
def pdcprxLossesUptoRow : OpenClaim := { program := "ytnadmdadcpemnaagreat", sum := "ff6c1ea63f982a9ebbdc1c8f3eafb26825db2f1c98a0a88cc2901f9153dc81bc", func := "userplane/userplanelaw46.PdcprxLosses", spec := "pdcprxLosses", unfollowed := true, recurses := true, plainKeys := false, apart := false, narrowed := true }
def PdcprxLossesUptoSaid : Prop := pdcprxLossesUptoRow.holds Tryz.pinned (OpenSpec.upto pdcprxLossesSpec)

/-- 'userplanelaw46.PdcprxRefuses', WHERE WHAT IT READS IS OF BULK AT MOST 1048576: true; the input reads as it did. -/
def pdcprxRefusesUptoRow : OpenClaim := { program := "ytnadmdadcpemnaagreat", sum := "ff6c1ea63f982a9ebbdc1c8f3eafb26825db2f1c98a0a88cc2901f9153dc81bc", func := "userplane/userplanelaw46.PdcprxRefuses", spec := "pdcprxRefuses", unfollowed := true, recurses := true, plainKeys := false, apart := false, narrowed := true }
def PdcprxRefusesUptoSaid : Prop := pdcprxRefusesUptoRow.holds Tryz.pinned (OpenSpec.upto pdcprxRefusesSpec)

/-- 'userplanelaw46.PdcprxCopies', WHERE WHAT IT READS IS OF BULK AT MOST 1048576: true; the input reads as it did. -/
def pdcprxCopiesUptoRow : OpenClaim := { program := "ytnadmdadcpemnaagreat", sum := "ff6c1ea63f982a9ebbdc1c8f3eafb26825db2f1c98a0a88cc2901f9153dc81bc", func := "userplane/userplanelaw46.PdcprxCopies", spec := "pdcprxCopies", inPlace := ["maps.clone"], unfollowed := true, recurses := true, plainKeys := false, apart := false, narrowed := true }
def PdcprxCopiesUptoSaid : Prop := pdcprxCopiesUptoRow.holds Tryz.pinned (OpenSpec.upto pdcprxCopiesSpec)

/-- 'userplanelaw46.PdcprxPlays', WHERE WHAT IT READS IS OF BULK AT MOST 1048576: true; the input reads as it did. -/
def pdcprxPlaysUptoRow : OpenClaim := { program := "ytnadmdadcpemnaagreat", sum := "ff6c1ea63f982a9ebbdc1c8f3eafb26825db2f1c98a0a88cc2901f9153dc81bc", func := "userplane/userplanelaw46.PdcprxPlays", spec := "pdcprxPlays", unfollowed := true, recurses := true, plainKeys := false, apart := false, narrowed := true }
def PdcprxPlaysUptoSaid : Prop := pdcprxPlaysUptoRow.holds Tryz.pinned (OpenSpec.upto pdcprxPlaysSpec)

end Rows
end Go.Proofs.YtnadmdadcpemnaaGreat

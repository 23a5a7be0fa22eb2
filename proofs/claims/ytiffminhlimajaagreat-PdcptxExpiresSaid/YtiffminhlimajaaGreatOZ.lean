/- lists of packets with COUNTs in memory. -/
import Derived.Test.YtiffminhlimajaaGreatNA
import Derived.Test.YtiffminhlimajaaGreatApp
import Derived.Test.YtiffminhlimajaaGreatStr
import Derived.Test.YtiffminhlimajaaGreatHN
import Derived.BigGuardPart
import Derived.BigQuiet
import Derived.Deep.DeepFit
import Derived.Deep.OwnRows
import Derived.Deep.QuietTactic
import Derived.Handy
import Derived.KernelRfl
import Derived.ScopeJumps
import Derived.WalkLawsBesides
import Derived.WalkMore
import Derived.WalkSpells
import Derived.RegionTactic
import Derived.ChangeAlike
import Derived.RangeFuncNested
import Derived.RangeFuncBound
import Derived.RangeFuncCalls
import Derived.RangeFuncLeaves
import Derived.Shelf.Abstract
import Derived.Shelf.RegionOpen
import Derived.WalkKit
import Derived.OwnWalkIn
import Derived.TacticsInMore
import Derived.LoopNIn
import Derived.LoopIn
import Derived.RangeFuncBox
import Derived.Deep.RegionHeld3
import Derived.Laws.BitsAllLaws
import Derived.Maps.OwnSet
namespace Go.Proofs.YtiffminhlimajaaGreat
open Go.RowKit

/-- a slice of m packets with their COUNTs -/
structure Cnts (w : World) (A : Option Addr) (m : Nat) (ct : Nat → Int) (PA : Nat → Option Addr) (pn pc : Nat → Nat) (z : Nat → Nat → Int) : Prop where
  at_ : m ≠ 0 → ∃ lb lo, A = some ⟨lb, lo, none⟩ ∧ lb < w.heap.size ∧ ∀ k, k < m → w.cell? ⟨lb, lo + k * 2, none⟩ = some (.int .u32 (ct k)) ∧ w.cell? ⟨lb, lo + k * 2 + 1, none⟩ = some (.slice (PA k) (pn k) (pc k))
  rng : ∀ k, k < m → 0 ≤ ct k ∧ ct k < 4294967296
  len : ∀ k, k < m → pn k ≤ 9223372036854775807
  cap : ∀ k, k < m → pn k ≤ pc k
  byte : ∀ k, k < m → ∀ j, j < pn k → 0 ≤ z k j ∧ z k j < 256
  row : ∀ k, k < m → Row w w.heap.size (PA k) (pn k) (fun j => .int .u8 (z k j))
theorem Cnts.below {w w' : World} {A : Option Addr} {m : Nat} {ct : Nat → Int} {PA : Nat → Option Addr} {pn pc : Nat → Nat} {z : Nat → Nat → Int} (h : Cnts w A m ct PA pn pc z) (hb : Below w.heap.size w w') : Cnts w' A m ct PA pn pc z :=
  ⟨fun hm => by
    obtain ⟨lb, lo, e, hlt, hc⟩ := h.at_ hm
    exact ⟨lb, lo, e, Nat.lt_of_lt_of_le hlt hb.size, fun k hk => ⟨(hb.cell (p := ⟨lb, lo + k * 2, none⟩) hlt).trans (hc k hk).1, (hb.cell (p := ⟨lb, lo + k * 2 + 1, none⟩) hlt).trans (hc k hk).2⟩⟩, h.rng, h.len, h.cap, h.byte, fun k hk => (h.row k hk).next hb⟩

theorem blk_atZ (W : World) (t : TypeId) (cs : Array Value) (N : Nat) (hN : W.heap.size = N) : Blk (W.alloc (.cells cs t)) N t cs := by
  subst hN; exact Blk.new W t cs
end Go.Proofs.YtiffminhlimajaaGreat

/- pdcp: lists of packets with COUNTs in memory; pdcprx.whole, pdcprx.valid of the zero configuration. -/
import Derived.Test.YtiffminhlimajaaNB
namespace Go.Proofs.Ytiffminhlimajaa
open Go.RowKit

attribute [local go_sem ↓] Go.wp_at_zero Go.wp_at_succ

/-- a slice of m packets with their COUNTs -/
structure Cnts (w : World) (A : Option Addr) (m : Nat) (ct : Nat → Int) (PA : Nat → Option Addr) (pn pc : Nat → Nat) (z : Nat → Nat → Int) : Prop where
  at_ : m ≠ 0 → ∃ lb lo, A = some ⟨lb, lo, none⟩ ∧ lb < w.heap.size ∧ ∀ k, k < m → w.cell? ⟨lb, lo + k * 2, none⟩ = some (.int .u32 (ct k)) ∧ w.cell? ⟨lb, lo + k * 2 + 1, none⟩ = some (.slice (PA k) (pn k) (pc k))
  rng : ∀ k, k < m → 0 ≤ ct k ∧ ct k < 4294967296
  len : ∀ k, k < m → pn k ≤ 9223372036854775807
  cap : ∀ k, k < m → pn k ≤ pc k
  byte : ∀ k, k < m → ∀ j, j < pn k → 0 ≤ z k j ∧ z k j < 256
  row : ∀ k, k < m → Row w w.heap.size (PA k) (pn k) (fun j => .int .u8 (z k j))
theorem Cnts.below {w w' : World} {A : Option Addr} {m : Nat} {ct : Nat → Int} {PA : Nat → Option Addr} {pn pc : Nat → Nat} {z : Nat → Nat → Int} (h : Cnts w A m ct PA pn pc z) (hb : Below w.heap.size w w') : Cnts w' A m ct PA pn pc z :=
  ⟨fun hm => by
    obtain ⟨lb, lo, e, hlt, hc⟩ := h.at_ hm
    exact ⟨lb, lo, e, Nat.lt_of_lt_of_le hlt hb.size, fun k hk => ⟨(hb.cell (p := ⟨lb, lo + k * 2, none⟩) hlt).trans (hc k hk).1, (hb.cell (p := ⟨lb, lo + k * 2 + 1, none⟩) hlt).trans (hc k hk).2⟩⟩, h.rng, h.len, h.cap, h.byte, fun k hk => (h.row k hk).next hb⟩

/-- the COUNT before element k -/
def lastOf (d : Int) (ct : Nat → Int) (k : Nat) : Int := if k = 0 then d else ct (k - 1)
theorem lastOf_succ (d : Int) (ct : Nat → Int) (k : Nat) : lastOf d ct (k + 1) = ct k := rfl
/-- element k is in order -/
def elemOk (d nx : Int) (ct : Nat → Int) (pn : Nat → Nat) (k : Nat) : Prop := lastOf d ct k < ct k ∧ ct k < nx ∧ 1 ≤ pn k ∧ pn k ≤ 9000
def headOk (d nx : Int) : Prop := d ≤ nx ∧ nx ≤ 4294967296 ∧ nx - d ≤ 2048
def tailOk (d nx : Int) (m : Nat) (ct : Nat → Int) : Prop := nx = d ∨ (lastOf d ct m = nx - 1 ∧ d < lastOf d ct m)
/-- a receiver's state is whole -/
def Whole (d nx : Int) (m : Nat) (ct : Nat → Int) (pn : Nat → Nat) : Prop := headOk d nx ∧ (∀ k, k < m → elemOk d nx ct pn k) ∧ tailOk d nx m ct

end Go.Proofs.Ytiffminhlimajaa

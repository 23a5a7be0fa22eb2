/- law 47, XHG without what XU has. -/
import Derived.Test.YtiffminhlimajaaMF
namespace Go.Proofs.Ytiffminhlimajaa
open Go.RowKit
/-- byte j of the reference's buffer after the four bytes below r -/
def headAt (first r j : Nat) : Int := if 1 ≤ j ∧ j < r ∧ j < 5 then ((first / 2 ^ (8 * (4 - j)) % 256 : Nat) : Int) else 0
def bodyAt (first : Nat) (b : Nat → Bool) (i j : Nat) : Int := if j < 5 then headAt first 5 j else ((HM.pk b i (j - 5) : Nat) : Int)
theorem bodyAt_eb (first : Nat) (b : Nat → Bool) (n j : Nat) : bodyAt first b (HM.last b n) j = eb first b n j := by
  unfold bodyAt eb headAt
  by_cases h0 : j = 0
  · subst h0; simp
  · by_cases h5 : j < 5
    · have h1 : 1 ≤ j := by omega
      simp [h5, h0, h1]
    · simp [h5, h0]; rw [HM.pk_last b _ n]
theorem pow_cell (i : Nat) : ∀ W : World, (W.alloc (.cells #[.int .u8 128, .int .u8 64, .int .u8 32, .int .u8 16, .int .u8 8, .int .u8 4, .int .u8 2, .int .u8 1] 5)).cell? ⟨W.heap.size, i % 8, none⟩ = some (.int .u8 ((2 ^ (7 - i % 8) : Nat) : Int)) := by
  intro W
  refine ((Blk.new W _ _).cell _).trans ?_
  have : ∀ r, r < 8 → (#[Value.int .u8 128, .int .u8 64, .int .u8 32, .int .u8 16, .int .u8 8, .int .u8 4, .int .u8 2, .int .u8 1] : Array Value)[r]? = some (.int .u8 ((2 ^ (7 - r) : Nat) : Int)) := by
    intro r hr
    match r, hr with
    | 0, _ => rfl
    | 1, _ => rfl
    | 2, _ => rfl
    | 3, _ => rfl
    | 4, _ => rfl
    | 5, _ => rfl
    | 6, _ => rfl
    | 7, _ => rfl
  exact this _ (by omega)
theorem head_hit (first r : Nat) (h1 : 1 ≤ r) (h5 : r < 5) : headAt first (r + 1) r = ((first / 2 ^ (8 * (4 - r)) % 256 : Nat) : Int) := by unfold headAt; rw [if_pos (by omega)]
theorem head_miss (first r j : Nat) (h : j ≠ r) : headAt first (r + 1) j = headAt first r j := by
  unfold headAt
  by_cases h1 : 1 ≤ j ∧ j < r ∧ j < 5
  · rw [if_pos h1, if_pos (by omega)]
  · rw [if_neg h1, if_neg (by omega)]
end Go.Proofs.Ytiffminhlimajaa

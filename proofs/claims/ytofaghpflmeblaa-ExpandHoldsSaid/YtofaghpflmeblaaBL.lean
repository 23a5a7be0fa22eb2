/- slices of bools that came in. -/
import Derived.Test.YtofaghpflmeblaaU
namespace Go.Proofs.Ytofaghpflmeblaa
open Go.RowKit
def IsBools (w : World) (a : Option Addr) (len cap : Nat) (B : Nat → Bool) : Prop :=
  (a = none ∧ len = 0 ∧ cap = 0) ∨ ∃ x, a = some x ∧ len ≤ cap ∧ cap ≤ maxLen ∧ ∀ i, i < cap → w.cell? (x.add i) = some (.bool (B i))
theorem isBools_row {w : World} {a : Option Addr} {len cap : Nat} {B : Nat → Bool} (h : IsBools w a len cap B) : Row w w.heap.size a len (fun j => .bool (B j)) := by
  intro hn
  rcases h with ⟨_, h0, _⟩ | ⟨⟨b, off, spot⟩, rfl, hl, hm, hc⟩
  · omega
  · have c0 := hc 0 (by omega)
    have hspot : spot = none := by simpa [Addr.add] using World.cell?_spot c0
    subst hspot
    have hadd : ∀ j, (⟨b, off, none⟩ : Addr).add j = ⟨b, off + j, none⟩ := fun j => by unfold Addr.add; split <;> simp_all
    refine ⟨b, off, rfl, ?_, fun j hj => ?_⟩
    · rw [hadd] at c0
      exact World.block_lt_of_cell? w _ c0
    · have := hc j (by omega)
      rw [hadd] at this
      exact this
theorem isBools_len {w : World} {a : Option Addr} {len cap : Nat} {B : Nat → Bool} (h : IsBools w a len cap B) : len ≤ maxLen ∧ len ≤ cap := by
  rcases h with ⟨_, h0, _⟩ | ⟨x, _, hl, hm, _⟩
  · subst h0; exact ⟨Nat.zero_le _, Nat.zero_le _⟩
  · exact ⟨Nat.le_trans hl hm, hl⟩
end Go.Proofs.Ytofaghpflmeblaa

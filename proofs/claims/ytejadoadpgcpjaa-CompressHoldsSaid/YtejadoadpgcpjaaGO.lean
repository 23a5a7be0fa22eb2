/- compress: Compress of any bytes. -/
import Derived.Test.YtejadoadpgcpjaaGV
import Derived.Test.YtejadoadpgcpjaaGM
namespace Go.Proofs.Ytejadoadpgcpjaa
open Go.RowKit

attribute [local go_sem ↓] Go.wp_at_zero Go.wp_at_succ

def coLen (S : Nat → Rx) (T : Int) (n : Nat) (z : Nat → Int) : Nat := if ckErr n ≠ 0 then 0 else if pErr n z ≠ 0 then 1 + n else 1 + (cLen S T (pHdr n z) + (n - 20))
def coY (S : Nat → Rx) (T : Int) (n : Nat) (z : Nat → Int) : Nat → Int := if pErr n z ≠ 0 then joinY 192 z else joinY (cFirst S T (pHdr n z)) (cBody S T (pHdr n z) n z)
def coS (S : Nat → Rx) (T : Int) (n : Nat) (z : Nat → Int) : Nat → Rx := if pErr n z ≠ 0 then S else cState S T (pHdr n z)
def coT (T : Int) (n : Nat) (z : Nat → Int) : Int := if pErr n z ≠ 0 then T else T + 1
theorem ckErr_p (n : Nat) (z : Nat → Int) (h : ckErr n ≠ 0) : pErr n z ≠ 0 := by
  intro hp
  obtain ⟨h1, h2, _⟩ := pErr_good n z hp
  exact h (by unfold ckErr; rw [if_neg (by omega), if_neg (by omega)])
theorem compress_any (g : Nat) (S : Nat → Rx) (T : Int) (A : Option Addr) (n c : Nat) (z : Nat → Int) (w : World) (h : CB w g true S T) (hok : ∀ i, i < 16 → (S i).Ok) (hT : 0 ≤ T ∧ T < 4611686018427387904) (hnc : n ≤ c) (hz : ∀ j, j < n → 0 ≤ z j ∧ z j < 256) (hr : Row w w.heap.size A n (fun j => .int .u8 (z j))) (hlg : ∀ a, A = some a → a.block ≠ g) :
    Calls Try.prog 32 #[.pointer (some ⟨g, 0, none⟩), .slice A n c] w (COut (coLen S T n z) (coY S T n z) (ckErr n) g (coS S T n z) (coT T n z) w) := by
  unfold coLen coY coS coT
  by_cases he : ckErr n = 0
  · rw [if_neg (not_not_intro he), he]
    by_cases hp : pErr n z = 0
    · rw [if_neg (not_not_intro hp), if_neg (not_not_intro hp), if_neg (not_not_intro hp), if_neg (not_not_intro hp)]
      obtain ⟨n20, _, _⟩ := pErr_good n z hp
      obtain ⟨lb, lo, rfl, _, _⟩ := hr (by omega)
      exact compress_good g S T lb lo n c z w h hok hT hp hnc hz hr (hlg _ rfl)
    · rw [if_pos hp, if_pos hp, if_pos hp, if_pos hp]
      exact compress_raw g S T A n c z w h he hp hnc hz hr
  · have hp := ckErr_p n z he
    rw [if_pos he, if_pos hp, if_pos hp, if_pos hp]
    exact (compress_bad g S T A n c w h he).mono fun e w' ⟨h1, h2⟩ => ⟨none, 0, h1, Nat.le_refl _, fresh_none _, Row.nil, CB.below h h2 h.lt, keep_of_below h2⟩
theorem co_ok (S : Nat → Rx) (T : Int) (n : Nat) (z : Nat → Int) (hok : ∀ i, i < 16 → (S i).Ok) : ∀ i, i < 16 → (coS S T n z i).Ok := by
  intro i hi
  unfold coS
  by_cases hp : pErr n z = 0
  · rw [if_neg (not_not_intro hp)]
    have hO := hok (cPlace S (pHdr n z)) (cPlace_lt _ _)
    have b5 := pHdr_lt n z 5
    have b6 := pHdr_lt n z 6
    have b7 := pHdr_lt n z 7
    have e5 : ((2 ^ pwd (5 + 1) : Nat) : Int) = 256 := by decide
    have e6 : ((2 ^ pwd (6 + 1) : Nat) : Int) = 65536 := by decide
    have e7 : ((2 ^ pwd (7 + 1) : Nat) : Int) = 16777216 := by decide
    rw [e5] at b5
    rw [e6] at b6
    rw [e7] at b7
    obtain ⟨X, hX⟩ : ∃ X, X = pHdr n z := ⟨_, rfl⟩
    rw [← hX] at b5 b6 b7 hO ⊢
    have hgen : ∀ s : Int, 0 ≤ (begun (cTurned S T X) (X 5) (X 6) (X 7) s).gen ∧ (begun (cTurned S T X) (X 5) (X 6) (X 7) s).gen < 256 := fun s => by
      have := hO.gen
      show 0 ≤ (if (S (cPlace S X)).began = true then ((S (cPlace S X)).gen + 1) % 256 else (S (cPlace S X)).gen) ∧ (if (S (cPlace S X)).began = true then ((S (cPlace S X)).gen + 1) % 256 else (S (cPlace S X)).gen) < 256
      split <;> omega
    unfold cState upd
    split
    · unfold cNew
      split
      · exact ⟨b5, b6, b7, hgen 0, by show (0 : Int) ≤ 0 ∧ (0 : Int) < 65536; decide⟩
      · split
        · rename_i h0 h1
          obtain ⟨_, _, _, n1, n2⟩ := kind_used S T X h0
          have ht : kT (cTurned S T X) (X 7) < 65536 := by
            have h1' := h1
            unfold cKind kindOf at h1'
            split at h1'
            · cases h1'
            · split at h1'
              · cases h1'
              · split at h1'
                · assumption
                · cases h1'
          have ht0 : 0 ≤ kT (cTurned S T X) (X 7) := by unfold kT; omega
          have q0 : 0 ≤ kT (cTurned S T X) (X 7) / kN (cTurned S T X) (X 6) := Int.ediv_nonneg ht0 (by omega)
          have q1 : kT (cTurned S T X) (X 7) / kN (cTurned S T X) (X 6) ≤ kT (cTurned S T X) (X 7) := Int.ediv_le_self _ ht0
          exact ⟨b5, b6, b7, hgen _, q0, by show kT (cTurned S T X) (X 7) / kN (cTurned S T X) (X 6) < 65536; omega⟩
        · exact ⟨hO.hops, hO.ident, hO.time, hO.gen, hO.step⟩
    · exact hok i hi
  · rw [if_pos hp]; exact hok i hi
end Go.Proofs.Ytejadoadpgcpjaa

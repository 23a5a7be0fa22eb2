/- The polynomial of a block size is a permutation: injective, keeps parity, fixes 0, is free of contention. Plain arithmetic. -/
import Derived.Test.YtekgahigbeceeaaQM
namespace Go.Proofs.Ytekgahigbeceeaa.QM

def P (k i : Nat) : Nat := f1 k * i + f2 k * i * i
/-- the permutation -/
def pi (k i : Nat) : Nat := (f1 k * i + f2 k * i % k * i) % k

theorem pi_P (k i : Nat) : pi k i = P k i % k := by
  unfold pi P
  rw [Nat.add_mod, Nat.mod_mul_mod, ← Nat.add_mod]

theorem P_add (k i d : Nat) : P k (i + d) = P k i + d * (f1 k + f2 k * (2 * i + d)) := by
  unfold P
  grind

theorem facts (k : Nat) (hv : valid k = true) : Nat.gcd (f1 k) k = 1 ∧ f2 k ∣ k ∧ k ∣ f2 k ^ 13 ∧ f1 k % 2 = 1 ∧ f2 k % 2 = 0 ∧ k % 2 = 0 ∧ 40 ≤ k ∧ k ≤ 6144 := by
  have hg := good_of k hv
  simp only [good, Bool.and_eq_true, Nat.ble_eq] at hg
  obtain ⟨⟨⟨⟨⟨⟨⟨⟨⟨⟨⟨⟨⟨⟨_, _⟩, _⟩, _⟩, _⟩, _⟩, h1⟩, _⟩, h2⟩, h3⟩, h4⟩, h5⟩, h6⟩, h7⟩, h8⟩ := hg
  exact ⟨Nat.eq_of_beq_eq_true h4, Nat.dvd_of_mod_eq_zero (Nat.eq_of_beq_eq_true h2), Nat.dvd_of_mod_eq_zero (Nat.eq_of_beq_eq_true h3), Nat.eq_of_beq_eq_true h1, Nat.eq_of_beq_eq_true h5, Nat.eq_of_beq_eq_true h6, h7, h8⟩

theorem cop_lin (k m : Nat) (hv : valid k = true) : Nat.Coprime (f1 k + f2 k * m) k := by
  obtain ⟨h1, h2, h3, _⟩ := facts k hv
  have a : Nat.Coprime (f1 k) (f2 k) := Nat.Coprime.coprime_dvd_right h2 h1
  have b : Nat.Coprime (f1 k + f2 k * m) (f2 k) := by
    unfold Nat.Coprime at a ⊢
    rw [Nat.gcd_add_mul_left_left]
    exact a
  exact Nat.Coprime.coprime_dvd_right h3 (Nat.Coprime.pow_right 13 b)

theorem dvd_of_P (k i d : Nat) (hv : valid k = true) (h : P k (i + d) % k = P k i % k) : k ∣ d := by
  have hd : k ∣ d * (f1 k + f2 k * (2 * i + d)) := by
    have e := P_add k i d
    have : (P k (i + d) - P k i) % k = 0 := Nat.sub_mod_eq_zero_of_mod_eq h
    rw [e, Nat.add_sub_cancel_left] at this
    exact Nat.dvd_of_mod_eq_zero this
  exact Nat.Coprime.dvd_of_dvd_mul_right (Nat.Coprime.symm (cop_lin k _ hv)) hd

theorem pi_lt' (k i : Nat) (hk : 0 < k) : pi k i < k := Nat.mod_lt _ hk

theorem pi_inj (k i j : Nat) (hv : valid k = true) (hi : i < k) (hj : j < k) (h : pi k i = pi k j) : i = j := by
  rw [pi_P, pi_P] at h
  rcases Nat.le_total i j with hle | hle
  · obtain ⟨d, rfl⟩ := Nat.exists_eq_add_of_le hle
    have hd := dvd_of_P k i d hv h.symm
    have : d = 0 := Nat.eq_zero_of_dvd_of_lt hd (by omega)
    omega
  · obtain ⟨d, rfl⟩ := Nat.exists_eq_add_of_le hle
    have hd := dvd_of_P k j d hv h
    have : d = 0 := Nat.eq_zero_of_dvd_of_lt hd (by omega)
    omega

theorem pi_zero (k : Nat) : pi k 0 = 0 := by simp [pi]

theorem pi_parity (k i : Nat) (hv : valid k = true) : pi k i % 2 = i % 2 := by
  obtain ⟨_, _, _, h1, h2, h3, _⟩ := facts k hv
  rw [pi_P, Nat.mod_mod_of_dvd _ (Nat.dvd_of_mod_eq_zero h3)]
  unfold P
  rw [Nat.add_mod, Nat.mul_mod, h1, Nat.mul_mod (f2 k * i), Nat.mul_mod (f2 k), h2]
  simp

theorem free (k w i j j' : Nat) (hv : valid k = true) (hw : k % w = 0) (hi : i < k / w) (hj : j < w) (hj' : j' < w)
    (h : pi k (i + j * (k / w)) / (k / w) = pi k (i + j' * (k / w)) / (k / w)) : j = j' := by
  obtain ⟨_, _, _, _, _, _, hk, _⟩ := facts k hv
  obtain ⟨s, hs⟩ : ∃ s, s = k / w := ⟨_, rfl⟩
  rw [← hs] at h hi
  have hks : k = s * w := by rw [hs]; exact (Nat.div_mul_cancel (Nat.dvd_of_mod_eq_zero hw)).symm
  have hsk : s ∣ k := ⟨w, hks⟩
  have hsp : 0 < s := by omega
  have m : ∀ x, pi k (i + x * s) % s = P k i % s := by
    intro x
    rw [pi_P, Nat.mod_mod_of_dvd _ hsk, P_add, Nat.mul_assoc, Nat.mul_left_comm, Nat.add_mul_mod_self_left]
  have lt : ∀ x, x < w → i + x * s < k := by
    intro x hx
    have : (x + 1) * s ≤ w * s := Nat.mul_le_mul_right s (by omega)
    rw [hks, Nat.mul_comm s w]
    rw [Nat.add_mul] at this
    omega
  have e : pi k (i + j * s) = pi k (i + j' * s) := by
    rw [← Nat.div_add_mod (pi k (i + j * s)) s, ← Nat.div_add_mod (pi k (i + j' * s)) s, h, m, m]
  have e2 := pi_inj k _ _ hv (lt j hj) (lt j' hj') e
  have e3 : j * s = j' * s := by omega
  exact Nat.eq_of_mul_eq_mul_right hsp e3
#print axioms free
end Go.Proofs.Ytekgahigbeceeaa.QM

/- Handover's plain mathematics: bits of bytes, the last set bit, packed bits; no program in sight. -/
import Derived.Test.YtmdpiajhfohagaaGreatW
namespace Go.Proofs.YtmdpiajhfohagaaGreat.HM

/-- the j-th bit of the bytes z, the most significant one of each byte first -/
def hb (z : Nat → Int) (j : Nat) : Bool := (z (j / 8)).toNat / 2 ^ (7 - j % 8) % 2 == 1

/-- the number of bits up to the last one that is set, among the first n -/
def last (b : Nat → Bool) : Nat → Nat
  | 0 => 0
  | n + 1 => if b n then n + 1 else last b n

theorem last_le (b : Nat → Bool) : ∀ n, last b n ≤ n
  | 0 => Nat.le_refl _
  | n + 1 => by
    unfold last
    split
    · exact Nat.le_refl _
    · exact Nat.le_succ_of_le (last_le b n)
theorem last_above (b : Nat → Bool) : ∀ n j, last b n ≤ j → j < n → b j = false
  | 0, j, _, h => absurd h (by omega)
  | n + 1, j, h1, h2 => by
    unfold last at h1
    split at h1
    · omega
    · rename_i hn
      by_cases hj : j = n
      · subst hj; simpa using hn
      · exact last_above b n j h1 (by omega)
theorem last_set (b : Nat → Bool) : ∀ n, 0 < last b n → b (last b n - 1) = true
  | 0, h => absurd h (by simp [last])
  | n + 1, h => by
    unfold last at h ⊢
    split at h
    · rename_i hn
      rw [if_pos hn]
      simpa using hn
    · rename_i hn
      rw [if_neg hn]
      exact last_set b n h
theorem last_unique (b : Nat → Bool) (n m : Nat) (hm : m ≤ n) (h0 : 0 < m → b (m - 1) = true) (h1 : ∀ j, m ≤ j → j < n → b j = false) : last b n = m := by
  have h2 := last_le b n
  rcases Nat.lt_trichotomy (last b n) m with h | h | h
  · have := last_above b n (m - 1) (by omega) (by omega)
    rw [h0 (by omega)] at this
    cases this
  · exact h
  · have := last_set b n (by omega)
    rw [h1 _ (by omega) (by omega)] at this
    cases this
theorem last_congr {b c : Nat → Bool} (n : Nat) (h : ∀ j, j < n → b j = c j) : last b n = last c n :=
  (last_unique c n (last b n) (last_le b n) (fun h0 => by rw [← h _ (by have := last_le b n; omega)]; exact last_set b n h0) (fun j h1 h2 => by rw [← h j h2]; exact last_above b n j h1 h2)).symm

/-- byte j of the packed bits b 0, .., b (i - 1) -/
def pk (b : Nat → Bool) : Nat → Nat → Nat
  | 0, _ => 0
  | i + 1, j => pk b i j + if i / 8 = j ∧ b i = true then 2 ^ (7 - i % 8) else 0

theorem pk_far (b : Nat → Bool) : ∀ i j, i ≤ 8 * j → pk b i j = 0
  | 0, _, _ => rfl
  | i + 1, j, h => by
    unfold pk
    rw [pk_far b i j (by omega), if_neg (by omega)]
theorem pk_done (b : Nat → Bool) : ∀ d i j, 8 * j + 8 ≤ i → pk b (i + d) j = pk b i j
  | 0, _, _, _ => rfl
  | d + 1, i, j, h => by
    show pk b (i + d + 1) j = _
    unfold pk
    rw [pk_done b d i j h, if_neg (by omega), Nat.add_zero]
    cases i <;> rfl
theorem pk_skip (b : Nat → Bool) (i j : Nat) (h : b i = false) : pk b (i + 1) j = pk b i j := by
  show pk b i j + _ = _
  rw [if_neg (by simp [h]), Nat.add_zero]
theorem pk_other (b : Nat → Bool) (i j : Nat) (h : i / 8 ≠ j) : pk b (i + 1) j = pk b i j := by
  show pk b i j + _ = _
  rw [if_neg (by simp [h]), Nat.add_zero]
theorem pk_hit (b : Nat → Bool) (i : Nat) (h : b i = true) : pk b (i + 1) (i / 8) = pk b i (i / 8) + 2 ^ (7 - i % 8) := by
  show pk b i (i / 8) + _ = _
  rw [if_pos ⟨rfl, h⟩]
theorem pk_congr {b c : Nat → Bool} : ∀ i j, (∀ t, t < i → b t = c t) → pk b i j = pk c i j
  | 0, _, _ => rfl
  | i + 1, j, h => by
    unfold pk
    rw [pk_congr i j (fun t ht => h t (by omega)), h i (by omega)]

theorem pk_zero (b : Nat → Bool) : ∀ i j, last b i ≤ 8 * j → pk b i j = 0
  | 0, _, _ => rfl
  | i + 1, j, h => by
    by_cases hb : b i = true
    · unfold last at h
      rw [if_pos hb] at h
      exact pk_far b _ _ h
    · unfold last at h
      rw [if_neg hb] at h
      rw [pk_skip b i j (by simpa using hb)]
      exact pk_zero b i j h

/-- after r bits of byte j: a multiple of 2^(8-r), below 256 -/
theorem pk_form (b : Nat → Bool) (j : Nat) : ∀ r, r ≤ 8 → ∃ q, q < 2 ^ r ∧ pk b (8 * j + r) j = q * 2 ^ (8 - r)
  | 0, _ => ⟨0, by simp, (pk_far b _ _ (by omega)).trans (Nat.zero_mul _).symm⟩
  | r + 1, h => by
    obtain ⟨q, hq, e⟩ := pk_form b j r (by omega)
    have e1 : (8 * j + r) / 8 = j := by omega
    have e2 : (8 * j + r) % 8 = r := by omega
    have e3 : 2 ^ (8 - r) = 2 * 2 ^ (8 - (r + 1)) := by
      rw [show 8 - r = (8 - (r + 1)) + 1 by omega, Nat.pow_succ]; omega
    show ∃ q, q < 2 ^ (r + 1) ∧ pk b (8 * j + r + 1) j = _
    by_cases hb : b (8 * j + r) = true
    · refine ⟨2 * q + 1, by rw [Nat.pow_succ]; omega, ?_⟩
      have := pk_hit b (8 * j + r) hb
      rw [e1, e2] at this
      rw [this, e, e3, show 7 - r = 8 - (r + 1) by omega]
      rw [Nat.add_mul, Nat.one_mul, ← Nat.mul_assoc, Nat.mul_comm q 2]
    · refine ⟨2 * q, by rw [Nat.pow_succ]; omega, ?_⟩
      rw [pk_skip b _ _ (by simpa using hb), e, e3, ← Nat.mul_assoc, Nat.mul_comm q 2]
theorem pk_lt (b : Nat → Bool) (i j : Nat) : pk b i j < 256 := by
  by_cases h1 : i ≤ 8 * j
  · rw [pk_far b i j h1]; decide
  · by_cases h2 : 8 * j + 8 ≤ i
    · obtain ⟨q, hq, e⟩ := pk_form b j 8 (by omega)
      have := pk_done b (i - (8 * j + 8)) (8 * j + 8) j (by omega)
      rw [show 8 * j + 8 + (i - (8 * j + 8)) = i by omega] at this
      rw [this, e]; omega
    · obtain ⟨q, hq, e⟩ := pk_form b j (i - 8 * j) (by omega)
      rw [show 8 * j + (i - 8 * j) = i by omega] at e
      rw [e]
      have := Nat.mul_lt_mul_of_pos_right (k := 2 ^ (8 - (i - 8 * j))) hq (Nat.two_pow_pos _)
      rw [← Nat.pow_add, show i - 8 * j + (8 - (i - 8 * j)) = 8 by omega] at this
      exact this
/-- or is plus, where the bit is not set yet -/
theorem or_plus : ∀ r, r < 8 → ∀ q, q < 2 ^ r → q * 2 ^ (8 - r) ||| 128 >>> r = q * 2 ^ (8 - r) + 2 ^ (7 - r) := by decide +kernel
theorem pk_or (b : Nat → Bool) (i : Nat) (h : b i = true) : pk b i (i / 8) ||| 128 >>> (i % 8) = pk b (i + 1) (i / 8) := by
  obtain ⟨q, hq, e⟩ := pk_form b (i / 8) (i % 8) (by omega)
  rw [show 8 * (i / 8) + i % 8 = i by omega] at e
  rw [pk_hit b i h, e]
  exact or_plus (i % 8) (by omega) q hq

/-- the packed byte's bits are the bits -/
theorem bit_form : ∀ r, r < 8 → ∀ q, q < 256 → (q / 2 ^ (7 - r) % 2 == 1) = (q / 2 ^ (7 - r)).testBit 0 := by decide +kernel
theorem pk_bit (b : Nat → Bool) (j : Nat) : ∀ r, r ≤ 8 → ∀ t, t < r → pk b (8 * j + r) j / 2 ^ (7 - t) % 2 = if b (8 * j + t) then 1 else 0
  | 0, _, t, h => absurd h (by omega)
  | r + 1, hr, t, ht => by
    obtain ⟨q, hq, e⟩ := pk_form b j r (by omega)
    have e1 : (8 * j + r) / 8 = j := by omega
    have e2 : (8 * j + r) % 8 = r := by omega
    have ep : pk b (8 * j + (r + 1)) j = pk b (8 * j + r) j + if b (8 * j + r) = true then 2 ^ (7 - r) else 0 := by
      show pk b (8 * j + r) j + (if (8 * j + r) / 8 = j ∧ b (8 * j + r) = true then 2 ^ (7 - (8 * j + r) % 8) else 0) = _
      rw [e1, e2]; simp
    have e3 : 2 ^ (8 - r) = 2 * 2 ^ (7 - r) := by
      rw [show 8 - r = (7 - r) + 1 by omega, Nat.pow_succ]; omega
    by_cases htr : t = r
    · subst htr
      rw [ep, e, e3, ← Nat.mul_assoc]
      split
      · rw [← Nat.succ_mul, Nat.mul_div_cancel _ (Nat.two_pow_pos _)]; omega
      · rw [Nat.add_zero, Nat.mul_div_cancel _ (Nat.two_pow_pos _)]; omega
    · have ih := pk_bit b j r (by omega) t (by omega)
      rw [ep]
      have ed : 2 ^ (7 - t) = 2 ^ (8 - r) * 2 ^ (r - 1 - t) := by rw [← Nat.pow_add]; congr 1; omega
      rw [e, ed, ← Nat.div_div_eq_div_mul, Nat.mul_div_cancel _ (Nat.two_pow_pos _)] at ih
      rw [e, ed, ← Nat.div_div_eq_div_mul]
      have : (q * 2 ^ (8 - r) + if b (8 * j + r) = true then 2 ^ (7 - r) else 0) / 2 ^ (8 - r) = q := by
        split
        · rw [Nat.mul_comm, Nat.mul_add_div (Nat.two_pow_pos _), Nat.div_eq_of_lt (by rw [e3]; have := Nat.two_pow_pos (7 - r); omega), Nat.add_zero]
        · rw [Nat.add_zero, Nat.mul_div_cancel _ (Nat.two_pow_pos _)]
      rw [this]; exact ih
end Go.Proofs.YtmdpiajhfohagaaGreat.HM

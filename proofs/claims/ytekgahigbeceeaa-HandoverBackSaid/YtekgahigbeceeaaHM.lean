/- Handover's plain mathematics for the way back: bits packed and unpacked. -/
import Derived.Test.YtekgahigbeceeaaHX
namespace Go.Proofs.Ytekgahigbeceeaa
open Go.RowKit

theorem HM.bit_pk (b : Nat → Bool) (n j : Nat) : HM.pk b n (j / 8) / 2 ^ (7 - j % 8) % 2 = if j < n ∧ b j = true then 1 else 0 := by
  by_cases h1 : n ≤ 8 * (j / 8)
  · rw [HM.pk_far b n _ h1, if_neg (by omega)]; simp
  · by_cases h2 : 8 * (j / 8) + 8 ≤ n
    · have hd := HM.pk_done b (n - (8 * (j / 8) + 8)) (8 * (j / 8) + 8) (j / 8) (by omega)
      rw [show 8 * (j / 8) + 8 + (n - (8 * (j / 8) + 8)) = n by omega] at hd
      rw [hd]
      have := HM.pk_bit b (j / 8) 8 (Nat.le_refl _) (j % 8) (by omega)
      rw [show 8 * (j / 8) + j % 8 = j by omega] at this
      rw [this]
      have hj : j < n := by omega
      simp [hj]
    · obtain ⟨r, hr⟩ : ∃ r, n = 8 * (j / 8) + r := ⟨n - 8 * (j / 8), by omega⟩
      by_cases ht : j % 8 < r
      · have := HM.pk_bit b (j / 8) r (by omega) (j % 8) ht
        rw [show 8 * (j / 8) + j % 8 = j by omega, ← hr] at this
        rw [this]
        have hj : j < n := by omega
        simp [hj]
      · obtain ⟨q, _, e⟩ := HM.pk_form b (j / 8) r (by omega)
        rw [← hr] at e
        rw [e, if_neg (by omega)]
        have e2 : 2 ^ (8 - r) = 2 ^ (7 - j % 8) * (2 * 2 ^ (j % 8 - r)) := by
          rw [← Nat.mul_assoc, Nat.mul_comm _ 2, Nat.mul_assoc, ← Nat.pow_add, show 7 - j % 8 + (j % 8 - r) = 7 - r by omega, show 8 - r = (7 - r) + 1 by omega, Nat.pow_succ, Nat.mul_comm]
        rw [e2, ← Nat.mul_assoc, Nat.mul_comm q, Nat.mul_assoc, Nat.mul_div_cancel_left _ (Nat.two_pow_pos _), Nat.mul_comm q, Nat.mul_assoc]
        omega
theorem HM.byte_ext (x y : Nat) (hx : x < 256) (hy : y < 256) (h : ∀ t, t < 8 → x / 2 ^ (7 - t) % 2 = y / 2 ^ (7 - t) % 2) : x = y := by
  have h0 := h 0 (by decide); have h1 := h 1 (by decide); have h2 := h 2 (by decide); have h3 := h 3 (by decide)
  have h4 := h 4 (by decide); have h5 := h 5 (by decide); have h6 := h 6 (by decide); have h7 := h 7 (by decide)
  simp at h0 h1 h2 h3 h4 h5 h6 h7
  omega
theorem HM.hb_at (z : Nat → Int) (J t : Nat) (ht : t < 8) : HM.hb z (8 * J + t) = ((z J).toNat / 2 ^ (7 - t) % 2 == 1) := by
  unfold HM.hb; rw [show (8 * J + t) / 8 = J by omega, show (8 * J + t) % 8 = t by omega]
/-- the bits of a byte, packed: the byte -/
theorem HM.pk_hb (z : Nat → Int) (J : Nat) (h0 : 0 ≤ z J) (h1 : z J < 256) : ((HM.pk (HM.hb z) (8 * J + 8) J : Nat) : Int) = z J := by
  have : HM.pk (HM.hb z) (8 * J + 8) J = (z J).toNat := by
    refine HM.byte_ext _ _ (HM.pk_lt _ _ _) (by omega) fun t ht => ?_
    rw [HM.pk_bit (HM.hb z) J 8 (Nat.le_refl _) t ht, HM.hb_at z J t ht]
    have := Nat.mod_two_eq_zero_or_one ((z J).toNat / 2 ^ (7 - t))
    rcases this with h | h <;> simp [h]
  omega
theorem HM.pk_all (z : Nat → Int) (N J : Nat) (hN : 8 * J + 8 ≤ N) (h0 : 0 ≤ z J) (h1 : z J < 256) : ((HM.pk (HM.hb z) N J : Nat) : Int) = z J := by
  have := HM.pk_done (HM.hb z) (N - (8 * J + 8)) (8 * J + 8) J (Nat.le_refl _)
  rw [show 8 * J + 8 + (N - (8 * J + 8)) = N by omega] at this
  rw [this, HM.pk_hb z J h0 h1]
theorem HM.last_last (b : Nat → Bool) (n : Nat) : HM.last b (HM.last b n) = HM.last b n :=
  HM.last_unique b _ _ (Nat.le_refl _) (fun h => HM.last_set b n h) (fun j h1 h2 => by omega)
/-- a byte that is not 0 has a bit -/
theorem HM.last_byte (z : Nat → Int) (q : Nat) (hq : 0 < q) (h0 : 0 ≤ z (q - 1)) (h1 : z (q - 1) < 256) (hne : z (q - 1) ≠ 0) : 8 * (q - 1) < HM.last (HM.hb z) (8 * q) := by
  rcases Nat.lt_or_ge (8 * (q - 1)) (HM.last (HM.hb z) (8 * q)) with h | h
  · exact h
  · exfalso
    apply hne
    have : (z (q - 1)).toNat = 0 := by
      refine HM.byte_ext _ _ (by omega) (by decide) fun t ht => ?_
      have := HM.last_above (HM.hb z) (8 * q) (8 * (q - 1) + t) (by omega) (by omega)
      rw [HM.hb_at z (q - 1) t ht] at this
      have h2 := Nat.mod_two_eq_zero_or_one ((z (q - 1)).toNat / 2 ^ (7 - t))
      rcases h2 with h2 | h2
      · rw [h2]; simp
      · rw [h2] at this; simp at this
    omega

/-! ### Decode of what EncodeStatus made -/
section
variable (first : Nat) (b : Nat → Bool) (n : Nat)
theorem eb_hb (j : Nat) : HM.hb (pay (dz (eb first b n))) j = (decide (j < n) && b j) := by
  have e : pay (dz (eb first b n)) (j / 8) = ((HM.pk b n (j / 8) : Nat) : Int) := by
    unfold pay dz eb
    rw [if_neg (by omega), if_neg (by omega), show 1 + (4 + j / 8) - 5 = j / 8 by omega]
  unfold HM.hb
  rw [e, Int.toNat_natCast, HM.bit_pk]
  by_cases h : j < n <;> cases b j <;> simp [h]
theorem eb_last (N : Nat) (hN : HM.last b n ≤ N) : HM.last (HM.hb (pay (dz (eb first b n)))) N = HM.last b n := by
  refine HM.last_unique _ _ _ hN (fun h => ?_) (fun j h1 h2 => ?_)
  · rw [eb_hb, HM.last_set b n h]
    have := HM.last_le b n
    simp; omega
  · rw [eb_hb]
    by_cases h : j < n
    · rw [HM.last_above b n j h1 h]; simp
    · simp [h]
theorem eb_first (hf : first < 4294967296) : fu (dz (eb first b n)) 4 = (first : Int) := by
  simp [fu, dz, eb]
  omega
theorem eb_bytes (j : Nat) : 0 ≤ eb first b n j ∧ eb first b n j < 256 := by
  unfold eb
  split
  · omega
  · split
    · omega
    · have := HM.pk_lt b n (j - 5); omega
theorem eb_serr (hn : n ≤ 2047) : serr (4 + (HM.last b n + 7) / 8) (dz (eb first b n)) = 0 ∧ nbits (4 + (HM.last b n + 7) / 8) (dz (eb first b n)) = HM.last b n := by
  have hl := HM.last_le b n
  have e1 : nbits (4 + (HM.last b n + 7) / 8) (dz (eb first b n)) = HM.last b n := by
    unfold nbits
    exact eb_last first b n _ (by omega)
  refine ⟨?_, e1⟩
  unfold serr
  rw [if_neg (by omega), if_neg (by omega), e1, if_neg (by omega), if_neg]
  rintro ⟨h1, h2⟩
  have hL : 0 < HM.last b n := by omega
  have h3 : dz (eb first b n) (4 + (HM.last b n + 7) / 8 - 1) = ((HM.pk b n ((HM.last b n - 1) / 8) : Nat) : Int) := by
    unfold dz eb
    rw [if_neg (by omega), if_neg (by omega), show 1 + (4 + (HM.last b n + 7) / 8 - 1) - 5 = (HM.last b n - 1) / 8 by omega]
  rw [h3] at h2
  have h4 := HM.bit_pk b n (HM.last b n - 1)
  rw [if_pos ⟨by omega, HM.last_set b n hL⟩] at h4
  have h5 : HM.pk b n ((HM.last b n - 1) / 8) = 0 := by omega
  rw [h5] at h4
  simp at h4
theorem enc_dec (hf : first < 4294967296) (hn : n ≤ 2047) :
    derr (5 + (HM.last b n + 7) / 8) (eb first b n) = 0 ∧ dkind (5 + (HM.last b n + 7) / 8) (eb first b n) = 0 ∧ dfirst (5 + (HM.last b n + 7) / 8) (eb first b n) = first ∧ dlen (5 + (HM.last b n + 7) / 8) (eb first b n) = HM.last b n ∧ dfeed (5 + (HM.last b n + 7) / 8) (eb first b n) = 0 := by
  obtain ⟨h1, h2⟩ := eb_serr first b n hn
  have e0 : eb first b n 0 = 0 := by unfold eb; simp
  have em : 5 + (HM.last b n + 7) / 8 - 1 = 4 + (HM.last b n + 7) / 8 := by omega
  refine ⟨?_, ?_, ?_, ?_, ?_⟩
  · unfold derr; rw [if_neg (by omega), if_pos e0, em, h1]
  · unfold dkind; rw [if_neg (by rw [e0]; omega)]
  · unfold dfirst sfirst; rw [if_pos ⟨by omega, e0⟩, em, h1, if_pos rfl, eb_first first b n hf]
  · unfold dlen slen; rw [if_pos ⟨by omega, e0⟩, em, h1, if_pos rfl, h2]
  · unfold dfeed; rw [if_neg (by rw [e0]; omega)]
end

/-! ### EncodeStatus of what Decode read -/
section
variable (m : Nat) (z : Nat → Int)
theorem dec_form (hd : derr m z = 0) (hk : dkind m z = 0) : 0 < m ∧ z 0 = 0 ∧ serr (m - 1) (dz z) = 0 := by
  unfold derr at hd
  unfold dkind at hk
  split at hd
  · omega
  · split at hd
    · exact ⟨by omega, ‹_›, hd⟩
    · split at hd
      · split at hd
        · omega
        · rw [if_pos ⟨by omega, ‹_›⟩] at hk; omega
      · omega
theorem dec_enc (hz : ∀ j, j < m → 0 ≤ z j ∧ z j < 256) (hd : derr m z = 0) (hk : dkind m z = 0) :
    0 ≤ dfirst m z ∧ dfirst m z < 4294967296 ∧ dlen m z ≤ 2047 ∧ 5 + (HM.last (HM.hb (pay (dz z))) (dlen m z) + 7) / 8 = m ∧
    ∀ j, j < m → eb (dfirst m z).toNat (HM.hb (pay (dz z))) (dlen m z) j = z j := by
  obtain ⟨h0, hz0, hs⟩ := dec_form m z hd hk
  have e1 : dfirst m z = fu (dz z) 4 := by unfold dfirst sfirst; rw [if_pos ⟨h0, hz0⟩, hs, if_pos rfl]
  have e2 : dlen m z = nbits (m - 1) (dz z) := by unfold dlen slen; rw [if_pos ⟨h0, hz0⟩, hs, if_pos rfl]
  rw [e1, e2]
  unfold serr at hs
  split at hs
  · omega
  · rename_i h4
    split at hs
    · omega
    · split at hs
      · omega
      · rename_i hn
        split at hs
        · omega
        · rename_i hlast
          have b1 := hz 1 (by omega)
          have b2 := hz 2 (by omega)
          have b3 := hz 3 (by omega)
          have b4 := hz 4 (by omega)
          have efu : fu (dz z) 4 = 16777216 * z 1 + 65536 * z 2 + 256 * z 3 + z 4 := by simp [fu, dz]; omega
          have em : m - 1 - 4 = m - 5 := by omega
          have hpz : ∀ k, pay (dz z) k = z (5 + k) := fun k => by unfold pay dz; congr 1; omega
          have hnb : nbits (m - 1) (dz z) = HM.last (HM.hb (pay (dz z))) (8 * (m - 5)) := by unfold nbits; rw [em]
          refine ⟨by rw [efu]; omega, by rw [efu]; omega, by omega, ?_, fun j hj => ?_⟩
          · rw [hnb, HM.last_last]
            have hle := HM.last_le (HM.hb (pay (dz z))) (8 * (m - 5))
            by_cases h5 : m = 5
            · subst h5; simp at hle ⊢; omega
            · have hb := hz (m - 1) (by omega)
              have hp : pay (dz z) (m - 5 - 1) = z (m - 1) := by rw [hpz]; congr 1; omega
              have hne : z (m - 1) ≠ 0 := by
                intro h
                apply hlast
                refine ⟨by omega, ?_⟩
                unfold dz
                rw [show 1 + (m - 1 - 1) = m - 1 by omega]; exact h
              have := HM.last_byte (pay (dz z)) (m - 5) (by omega) (by rw [hp]; omega) (by rw [hp]; omega) (by rw [hp]; exact hne)
              omega
          · unfold eb
            split
            · subst ‹j = 0›; rw [hz0]
            · split
              · rw [efu]
                have hh : j = 1 ∨ j = 2 ∨ j = 3 ∨ j = 4 := by omega
                rcases hh with rfl | rfl | rfl | rfl <;> simp <;> omega
              · rw [hnb, ← HM.pk_last, HM.pk_all _ _ _ (by omega) (by rw [hpz]; have := hz (5 + (j - 5)) (by omega); omega) (by rw [hpz]; have := hz (5 + (j - 5)) (by omega); omega), hpz]
                congr 1; omega
end

/-! ### Header feedback -/
theorem fb_dec (m : Nat) (z : Nat → Int) (h0 : 0 < m) : derr (m + 1) (fb z) = 0 ∧ dkind (m + 1) (fb z) = 1 ∧ dfirst (m + 1) (fb z) = 0 ∧ dlen (m + 1) (fb z) = 0 ∧ dfeed (m + 1) (fb z) = m := by
  have e : fb z 0 = 16 := rfl
  simp [derr, dkind, dfirst, dlen, dfeed, e]
  omega
theorem fb_dz (z : Nat → Int) (j : Nat) : dz (fb z) j = z j := by unfold dz fb; rw [if_neg (by omega)]; congr 1; omega
theorem fb_bytes (m : Nat) (z : Nat → Int) (hz : ∀ j, j < m → 0 ≤ z j ∧ z j < 256) : ∀ j, j < m + 1 → 0 ≤ fb z j ∧ fb z j < 256 := by
  intro j hj
  unfold fb
  split
  · omega
  · exact hz (j - 1) (by omega)
end Go.Proofs.Ytekgahigbeceeaa

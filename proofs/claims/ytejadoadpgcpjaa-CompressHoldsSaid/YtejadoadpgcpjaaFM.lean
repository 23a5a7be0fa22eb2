/- The header's plain mathematics: the fields of a built packet are the header's, and a packet that was taken apart is built again from its fields. -/
import Derived.Test.YtejadoadpgcpjaaEX
namespace Go.Proofs.Ytejadoadpgcpjaa
open Go.RowKit

theorem getv_bits (z : Nat → Int) (p width v : Nat) (hv : v < 2 ^ width) (hb : ∀ i, i < width → HM.hb z (p + i) = vbit v width i) : ∀ k, k ≤ width → getv z p k = v / 2 ^ (width - k)
  | 0, _ => by rw [Nat.sub_zero, Nat.div_eq_of_lt hv]; rfl
  | k + 1, hk => by
    unfold getv
    rw [getv_bits z p width v hv hb k (by omega), hb k (by omega)]
    unfold vbit
    rw [show width - 1 - k = width - (k + 1) by omega, show width - k = (width - (k + 1)) + 1 by omega, Nat.pow_succ, ← Nat.div_div_eq_div_mul]
    generalize v / 2 ^ (width - (k + 1)) = q
    by_cases h : q % 2 = 1
    · simp [h]; omega
    · simp [h]; omega

theorem getv_bit (z : Nat → Int) (p : Nat) : ∀ w i, i < w → vbit (getv z p w) w i = HM.hb z (p + i)
  | 0, i, h => absurd h (by omega)
  | w + 1, i, h => by
    unfold vbit getv
    by_cases hi : i = w
    · subst hi
      rw [show i + 1 - 1 - i = 0 by omega, Nat.pow_zero, Nat.div_one]
      cases HM.hb z (p + i)
      · simp
      · simp
    · have ih := getv_bit z p w i (by omega)
      unfold vbit at ih
      rw [← ih, show w + 1 - 1 - i = (w - 1 - i) + 1 by omega, Nat.pow_succ', ← Nat.div_div_eq_div_mul]
      congr 3
      split <;> omega

theorem so_offs : ∀ k, so pwd k = offs k
  | 0 => rfl
  | k + 1 => by show so pwd k + pwd k = offs k + pwd k; rw [so_offs k]

theorem place_at (t : Nat) (ht : t < 160) : ∃ k, k < 10 ∧ ∃ i, i < pwd k ∧ t = offs k + i := by
  have hc : t < 4 ∨ (4 ≤ t ∧ t < 8) ∨ (8 ≤ t ∧ t < 24) ∨ (24 ≤ t ∧ t < 56) ∨ (56 ≤ t ∧ t < 88) ∨ (88 ≤ t ∧ t < 96) ∨ (96 ≤ t ∧ t < 104) ∨ (104 ≤ t ∧ t < 120) ∨ (120 ≤ t ∧ t < 144) ∨ (144 ≤ t ∧ t < 160) := by omega
  rcases hc with h | h | h | h | h | h | h | h | h | h
  · exact ⟨0, by decide, t, by show t < 4; omega, by show t = 0 + t; omega⟩
  · exact ⟨1, by decide, t - 4, by show t - 4 < 4; omega, by show t = 4 + (t - 4); omega⟩
  · exact ⟨2, by decide, t - 8, by show t - 8 < 16; omega, by show t = 8 + (t - 8); omega⟩
  · exact ⟨3, by decide, t - 24, by show t - 24 < 32; omega, by show t = 24 + (t - 24); omega⟩
  · exact ⟨4, by decide, t - 56, by show t - 56 < 32; omega, by show t = 56 + (t - 56); omega⟩
  · exact ⟨5, by decide, t - 88, by show t - 88 < 8; omega, by show t = 88 + (t - 88); omega⟩
  · exact ⟨6, by decide, t - 96, by show t - 96 < 8; omega, by show t = 96 + (t - 96); omega⟩
  · exact ⟨7, by decide, t - 104, by show t - 104 < 16; omega, by show t = 104 + (t - 104); omega⟩
  · exact ⟨8, by decide, t - 120, by show t - 120 < 24; omega, by show t = 120 + (t - 120); omega⟩
  · exact ⟨9, by decide, t - 144, by show t - 144 < 16; omega, by show t = 144 + (t - 144); omega⟩
theorem place_lt (k i : Nat) (hk : k < 10) (hi : i < pwd k) : offs k + i < 160 := by
  have := offs_mono (k + 1) (9 - k)
  rw [show k + 1 + (9 - k) = 10 by omega] at this
  have h10 : offs 10 = 160 := by decide
  have h1 : offs (k + 1) = offs k + pwd k := rfl
  omega

theorem hb_pkt (h z : Nat → Int) (j : Nat) (hj : j < 160) : HM.hb (pktAt h z) j = hdrBits h j := by
  unfold HM.hb
  have e : pktAt h z (j / 8) = ((HM.pk (hdrBits h) 160 (j / 8) : Nat) : Int) := by unfold pktAt; rw [if_pos (by omega)]
  rw [e, Int.toNat_natCast, HM.bit_pk]
  cases hdrBits h j <;> simp [hj]

theorem field_back (h z : Nat → Int) (hw : anyWrong h = false) (k : Nat) (hk : k < 10) : ((fieldv (pktAt h z) k : Nat) : Int) = hval h k := by
  obtain ⟨h0, h1⟩ := anyWrong_false h hw k hk
  have e0 : ((hval h k).toNat : Int) = hval h k := Int.toNat_of_nonneg h0
  have hv : (hval h k).toNat < 2 ^ pwd k := by
    have h2 : (((2 ^ pwd k : Nat)) : Int) = 2 ^ pwd k := by simp
    omega
  have hb : ∀ i, i < pwd k → HM.hb (pktAt h z) (0 + so pwd k + i) = vbit (hval h k).toNat (pwd k) i := fun i hi => by
    rw [Nat.zero_add, so_offs, hb_pkt h z _ (place_lt k i hk hi)]
    exact hdrBits_at h k i hk hi
  have := getv_bits (pktAt h z) (0 + so pwd k) (pwd k) (hval h k).toNat hv hb (pwd k) (Nat.le_refl _)
  unfold fieldv
  rw [this, Nat.sub_self, Nat.pow_zero, Nat.div_one, e0]
theorem gpart_back (h z : Nat → Int) (hw : anyWrong h = false) (j : Nat) (hj : j < 9) : gpart (pktAt h z) 10 j = h j := by
  unfold gpart
  rw [if_pos (by omega), field_back h z hw (j + 1) (by omega)]
  unfold hval
  rw [if_neg (by omega), Nat.add_sub_cancel]
theorem gpart_hdr (h z : Nat → Int) (hw : anyWrong h = false) : hdr (gpart (pktAt h z) 10) = hdr h := by
  unfold hdr
  simp only [gpart_back h z hw 0 (by decide), gpart_back h z hw 1 (by decide), gpart_back h z hw 2 (by decide), gpart_back h z hw 3 (by decide), gpart_back h z hw 4 (by decide), gpart_back h z hw 5 (by decide), gpart_back h z hw 6 (by decide), gpart_back h z hw 7 (by decide), gpart_back h z hw 8 (by decide)]
theorem pkt_byte (h z : Nat → Int) (n : Nat) (hz : ∀ j, j < n → 0 ≤ z j ∧ z j < 256) (j : Nat) (hj : j < 20 + n) : 0 ≤ pktAt h z j ∧ pktAt h z j < 256 := by
  unfold pktAt
  split
  · have := HM.pk_lt (hdrBits h) 160 j
    omega
  · exact hz _ (by omega)

theorem hval_parsed (z : Nat → Int) (h5 : fieldv z 0 = 5) (k : Nat) (hk : k < 10) : hval (gpart z 10) k = ((fieldv z k : Nat) : Int) := by
  unfold hval
  by_cases h0 : k = 0
  · subst h0; rw [if_pos rfl, h5]; rfl
  · rw [if_neg h0]
    unfold gpart
    rw [if_pos (by omega), show k - 1 + 1 = k by omega]
theorem hdrBits_parsed (z : Nat → Int) (h5 : fieldv z 0 = 5) (t : Nat) (ht : t < 160) : hdrBits (gpart z 10) t = HM.hb z t := by
  obtain ⟨k, hk, i, hi, rfl⟩ := place_at t ht
  rw [hdrBits_at _ k i hk hi, hval_parsed z h5 k hk, Int.toNat_natCast]
  unfold fieldv
  rw [getv_bit z _ (pwd k) i hi, Nat.zero_add, so_offs]
theorem pkt_parsed (z : Nat → Int) (n : Nat) (_hn : 20 ≤ n) (hz : ∀ j, j < n → 0 ≤ z j ∧ z j < 256) (h5 : fieldv z 0 = 5) (j : Nat) (hj : j < n) : pktAt (gpart z 10) (fun i => z (20 + i)) j = z j := by
  unfold pktAt
  by_cases h : j < 20
  · rw [if_pos h, HM.pk_congr 160 j (fun t ht => hdrBits_parsed z h5 t ht)]
    exact HM.pk_all z 160 j (by omega) (hz j hj).1 (hz j hj).2
  · rw [if_neg h]; show z (20 + (j - 20)) = z j; congr 1; omega
theorem firstWrong_none (h : Nat → Int) : ∀ d k, (∀ j, k ≤ j → j < k + d → wrongB (hval h j) (pwd j) = false) → firstWrong h k d = -1
  | 0, _, _ => rfl
  | d + 1, k, hw => by
    unfold firstWrong
    rw [if_neg (by rw [hw k (Nat.le_refl _) (by omega)]; decide)]
    exact firstWrong_none h d (k + 1) (fun j h1 h2 => hw j (by omega) (by omega))
theorem wrongB_nat (x w : Nat) (hx : x < 2 ^ w) : wrongB (x : Int) w = false := by
  unfold wrongB
  have : ((x : Int) / 2 ^ w) = ((x / 2 ^ w : Nat) : Int) := by simp
  rw [this, Nat.div_eq_of_lt hx]
  simp
theorem valid_parsed (z : Nat → Int) (n : Nat) (hn : 20 ≤ n) (hm : n ≤ 9000) (h5 : fieldv z 0 = 5) (h9 : fieldv z 9 = n) : validB (gpart z 10) = true := by
  have hg : gpart z 10 8 = (n : Int) := by show ((fieldv z 9 : Nat) : Int) = n; rw [h9]
  have hf : firstWrong (gpart z 10) 0 10 = -1 := firstWrong_none _ 10 0 fun j _ hj => by
    rw [hval_parsed z h5 j (by omega)]
    exact wrongB_nat _ _ (getv_lt z _ _)
  unfold validB anyWrong
  rw [hf, hg]
  simp; omega
theorem withLen_parsed (z : Nat → Int) (n : Nat) (h9 : fieldv z 9 = n) : withLen (gpart z 10) (n : Int) = gpart z 10 := by
  funext k
  unfold withLen
  split
  · rename_i e; subst e; show (n : Int) = ((fieldv z 9 : Nat) : Int); rw [h9]
  · rfl
end Go.Proofs.Ytejadoadpgcpjaa

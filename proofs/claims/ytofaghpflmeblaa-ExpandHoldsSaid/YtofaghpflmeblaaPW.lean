/- expand: plain mathematics of ExpandBack and ExpandHolds: what Expand makes of a packet that Compress made. -/
import Derived.Test.YtofaghpflmeblaaQ8
namespace Go.Proofs.Ytofaghpflmeblaa
open Go.RowKit
set_option linter.unusedVariables false

/-- the expander's view of a compressor's context -/
def ecOf (x : Rx) : Ec := ⟨x.hops, x.ident, x.time, true, x.f0, x.f1, x.f2, x.f3, x.f4, x.gen, x.step⟩
theorem pErr_fields (n : Nat) (z : Nat → Int) (hp : pErr n z = 0) : fieldv z 0 = 5 ∧ fieldv z 9 = n := by
  unfold pErr at hp
  split at hp
  · exact absurd hp (by decide)
  · split at hp
    · exact absurd hp (by decide)
    · split at hp
      · assumption
      · exact absurd hp (by decide)
theorem len_bytes (n : Nat) (z : Nat → Int) (hz : ∀ j, j < n → 0 ≤ z j ∧ z j < 256) (hp : pErr n z = 0) : z 18 = (n : Int) / 256 ∧ z 19 = (n : Int) % 256 ∧ z 0 / 16 = 5 := by
  obtain ⟨h20, h9, _⟩ := pErr_good n z hp
  have h18 := hz 18 (by omega)
  have h19 := hz 19 (by omega)
  have h0 := hz 0 (by omega)
  obtain ⟨e0, e9⟩ := pErr_fields n z hp
  have f9 := fieldv_len z (z 18).toNat (z 19).toNat (by omega) (by omega) (by omega) (by omega)
  have f0 := fieldv_zero z (z 0).toNat (by omega) (by omega)
  omega
theorem pErr_congr (n : Nat) (y z : Nat → Int) (h : ∀ j, j < n → y j = z j) : pErr n y = pErr n z := by
  unfold pErr
  by_cases h20 : n < 20
  · rw [if_pos h20, if_pos h20]
  · rw [if_neg h20, if_neg h20, fieldv_head y z 0 (by omega) (fun j hj => h j (by omega)), fieldv_head y z 9 (by omega) (fun j hj => h j (by omega))]
theorem pHdr_congr (n : Nat) (y z : Nat → Int) (h : ∀ j, j < n → y j = z j) : pHdr n y = pHdr n z := by
  funext j
  unfold pHdr
  rw [pErr_congr n y z h]
  by_cases hp : pErr n z = 0
  · rw [if_pos hp, if_pos hp]
    obtain ⟨h20, _, _⟩ := pErr_good n z hp
    unfold gpart
    by_cases h10 : j + 1 < 10
    · rw [if_pos h10, if_pos h10, fieldv_head y z (j + 1) (by omega) (fun i hi => h i (by omega))]
    · rw [if_neg h10, if_neg h10]
  · rw [if_neg hp, if_neg hp]
theorem ckind_cases (S : Nat → Rx) (T : Int) (X : Nat → Int) : cKind S T X = 0 ∨ cKind S T X = 1 ∨ cKind S T X = 2 := by
  unfold cKind kindOf
  split
  · exact .inl rfl
  · split
    · exact .inr (.inr rfl)
    · split
      · exact .inr (.inl rfl)
      · exact .inl rfl
theorem kind_two (S : Nat → Rx) (T : Int) (X : Nat → Int) (h : cKind S T X = 2) : X 5 = (S (cPlace S X)).hops ∧ kT (S (cPlace S X)) (X 7) = (S (cPlace S X)).step * kN (S (cPlace S X)) (X 6) % 16777216 := by
  unfold cKind kindOf at h
  split at h
  · exact absurd h (by decide)
  · split at h
    · rename_i hh; exact hh
    · split at h <;> exact absurd h (by decide)
theorem kind_one (S : Nat → Rx) (T : Int) (X : Nat → Int) (h : cKind S T X = 1) : kT (S (cPlace S X)) (X 7) < 65536 := by
  unfold cKind kindOf at h
  split at h
  · exact absurd h (by decide)
  · split at h
    · exact absurd h (by decide)
    · split at h
      · rename_i hh; exact hh
      · exact absurd h (by decide)
theorem body_lo (S : Nat → Rx) (T : Int) (X : Nat → Int) (n : Nat) (z : Nat → Int) (j : Nat) (h : j < cLen S T X) : cBody S T X n z j = cHead S T X z j := by
  unfold cBody
  simp [catY, tot, h]
theorem body_hi (S : Nat → Rx) (T : Int) (X : Nat → Int) (n : Nat) (z : Nat → Int) (j : Nat) : cBody S T X n z (cLen S T X + j) = z (20 + j) := by
  unfold cBody
  simp [catY, tot]
  intro h
  omega
theorem co_raw (S : Nat → Rx) (T : Int) (n : Nat) (z : Nat → Int) (h1 : 1 ≤ n) (h9 : n ≤ 9000) (hp : pErr n z ≠ 0) : coLen S T n z = 1 + n ∧ coY S T n z = joinY 192 z ∧ coS S T n z = S := by
  have hc : ckErr n = 0 := by unfold ckErr; rw [if_neg (by omega), if_neg (by omega)]
  refine ⟨?_, ?_, ?_⟩
  · unfold coLen; rw [if_neg (not_not_intro hc), if_pos hp]
  · unfold coY; rw [if_pos hp]
  · unfold coS; rw [if_pos hp]
theorem co_good (S : Nat → Rx) (T : Int) (n : Nat) (z : Nat → Int) (hp : pErr n z = 0) : coLen S T n z = 1 + (cLen S T (pHdr n z) + (n - 20)) ∧ coY S T n z = joinY (cFirst S T (pHdr n z)) (cBody S T (pHdr n z) n z) ∧ coS S T n z = cState S T (pHdr n z) := by
  obtain ⟨h20, h9, _⟩ := pErr_good n z hp
  have hc : ckErr n = 0 := by unfold ckErr; rw [if_neg (by omega), if_neg (by omega)]
  refine ⟨?_, ?_, ?_⟩
  · unfold coLen; rw [if_neg (not_not_intro hc), if_neg (not_not_intro hp)]
  · unfold coY; rw [if_neg (not_not_intro hp)]
  · unfold coS; rw [if_neg (not_not_intro hp)]
/-- the first byte -/
theorem first_parts (k : Int) (p : Nat) (y : Nat → Int) (hk : k = 0 ∨ k = 1 ∨ k = 2) (hp : p < 16) (h : y 0 = 64 * k + 4 * (p : Int)) : xKind y = k ∧ xAt y = p ∧ y 0 % 4 = 0 := by
  unfold xKind xAt
  rw [h]
  omega
theorem join_succ (b : Int) (y : Nat → Int) (j : Nat) : joinY b y (j + 1) = y j := by
  unfold joinY
  rw [if_neg (by omega)]
  rfl
theorem ex_raw (E : Nat → Ec) (S : Nat → Rx) (T : Int) (n : Nat) (z : Nat → Int) (h1 : 1 ≤ n) (h9 : n ≤ 9000) (hp : pErr n z ≠ 0) :
    xErr E (coLen S T n z) (coY S T n z) = 0 ∧ xLen E (coLen S T n z) (coY S T n z) = n ∧ (∀ j, j < n → xY E (coLen S T n z) (coY S T n z) j = z j) ∧ xS E (coLen S T n z) (coY S T n z) = E ∧ coS S T n z = S := by
  obtain ⟨e1, e2, e3⟩ := co_raw S T n z h1 h9 hp
  rw [e1, e2, e3]
  have y0 : joinY 192 z 0 = 192 := rfl
  have hk : xKind (joinY 192 z) = 3 := by unfold xKind; rw [y0]; rfl
  have ha : xAt (joinY 192 z) = 0 := by unfold xAt; rw [y0]; rfl
  have hE : xErr E (1 + n) (joinY 192 z) = 0 := by
    unfold xErr
    rw [if_neg (by omega), if_neg (by rw [y0, hk, ha]; decide), hk, if_neg (by show ¬ 1 + n < 2; omega), if_pos rfl, if_neg (by omega)]
  refine ⟨hE, ?_, fun j _ => ?_, ?_, rfl⟩
  · unfold xLen
    rw [hE, if_neg (by decide), if_pos hk]
    omega
  · unfold xY
    rw [if_pos hk]
    rw [show 1 + j = j + 1 by omega, join_succ]
  · unfold xS
    rw [hE, hk, if_neg (by decide), if_neg (by decide), if_neg (by decide), if_neg (by decide)]
theorem hbitk_congr (h g : Nat → Int) (e : ∀ j, j < 9 → h j = g j) : ∀ n, n ≤ 10 → ∀ i, hbitk h n i = hbitk g n i
  | 0, _, _ => rfl
  | n + 1, hn, i => by
    unfold hbitk
    rw [hbitk_congr h g e n (by omega) i]
    have : hval h n = hval g n := by
      unfold hval
      by_cases h0 : n = 0
      · rw [if_pos h0, if_pos h0]
      · rw [if_neg h0, if_neg h0]; exact e _ (by omega)
    rw [this]
theorem pkt_same (n : Nat) (z : Nat → Int) (hz : ∀ j, j < n → 0 ≤ z j ∧ z j < 256) (hp : pErr n z = 0) (h yy : Nat → Int) (hh : ∀ j, j < 9 → h j = pHdr n z j) (hy : ∀ i, i < n - 20 → yy i = z (20 + i)) : ∀ j, j < n → pktAt h yy j = z j := by
  obtain ⟨h20, h9, _⟩ := pErr_good n z hp
  intro j hj
  rw [← pkt_parsed z n h20 hz (pErr_fields n z hp).1 j hj]
  unfold pktAt
  by_cases hj2 : j < 20
  · rw [if_pos hj2, if_pos hj2]
    have hb : hdrBits h = hdrBits (gpart z 10) := by
      unfold hdrBits
      funext i
      refine hbitk_congr h _ (fun j hj => (hh j hj).trans ?_) 10 (Nat.le_refl _) i
      unfold pHdr
      rw [if_pos hp]
    rw [hb]
  · rw [if_neg hj2, if_neg hj2]
    exact hy _ (by omega)
theorem pHdr8 (n : Nat) (z : Nat → Int) (hp : pErr n z = 0) : pHdr n z 8 = (n : Int) := by
  have := (pErr_fields n z hp).2
  unfold pHdr
  rw [if_pos hp]
  unfold gpart
  rw [if_pos (by decide)]
  show ((fieldv z 9 : Nat) : Int) = n
  rw [this]
theorem hj_same (c : Ec) (a i t N : Int) (n : Nat) (z : Nat → Int) (hp : pErr n z = 0) (hN : N = n) (e0 : c.f0 = pHdr n z 0) (e1 : c.f1 = pHdr n z 1) (e2 : c.f2 = pHdr n z 2) (e3 : c.f3 = pHdr n z 3) (e4 : c.f4 = pHdr n z 4) (e5 : a = pHdr n z 5) (e6 : i = pHdr n z 6) (e7 : t = pHdr n z 7) :
    ∀ k, k < 9 → withLen (hj c a i t) N k = pHdr n z k := fun k hk => by
  match k, hk with
  | 0, _ => exact e0
  | 1, _ => exact e1
  | 2, _ => exact e2
  | 3, _ => exact e3
  | 4, _ => exact e4
  | 5, _ => exact e5
  | 6, _ => exact e6
  | 7, _ => exact e7
  | 8, _ => exact hN.trans (pHdr8 n z hp).symm
/-- the first byte of a packet with a header -/
theorem good_first (S : Nat → Rx) (T : Int) (n : Nat) (z : Nat → Int) (hp : pErr n z = 0) : xKind (coY S T n z) = cKind S T (pHdr n z) ∧ xAt (coY S T n z) = cPlace S (pHdr n z) ∧ coY S T n z 0 % 4 = 0 :=
  first_parts _ _ _ (ckind_cases _ _ _) (cPlace_lt _ _) (by rw [(co_good S T n z hp).2.1]; rfl)
theorem ex_full (E : Nat → Ec) (S : Nat → Rx) (T : Int) (n : Nat) (z : Nat → Int) (hz : ∀ j, j < n → 0 ≤ z j ∧ z j < 256) (hp : pErr n z = 0) (hk : cKind S T (pHdr n z) = 0) :
    xErr E (coLen S T n z) (coY S T n z) = 0 ∧ xLen E (coLen S T n z) (coY S T n z) = n ∧ (∀ j, j < n → xY E (coLen S T n z) (coY S T n z) j = z j) ∧ xS E (coLen S T n z) (coY S T n z) = updE E (cPlace S (pHdr n z)) (ecOf (cNew S T (pHdr n z))) := by
  obtain ⟨h20, h9, _⟩ := pErr_good n z hp
  obtain ⟨c1, c2, _⟩ := co_good S T n z hp
  obtain ⟨f1, f2, f3⟩ := good_first S T n z hp
  obtain ⟨l18, l19, l0⟩ := len_bytes n z hz hp
  rw [hk] at f1
  have hL : cLen S T (pHdr n z) = 19 := by unfold cLen; rw [if_pos hk]
  have hM : coLen S T n z = n := by rw [c1, hL]; omega
  obtain ⟨Y, hY⟩ : ∃ Y, Y = coY S T n z := ⟨_, rfl⟩
  rw [← hY] at f1 f2 f3 c2 ⊢
  rw [hM]
  have y1 : Y 1 = (cNew S T (pHdr n z)).gen := by
    rw [c2, join_succ, body_lo _ _ _ _ _ _ (by omega)]
    unfold cHead; rw [if_pos hk, if_pos rfl]
  have yl : ∀ j, j < 18 → Y (2 + j) = z j := fun j hj => by
    rw [c2, show 2 + j = (1 + j) + 1 by omega, join_succ, body_lo _ _ _ _ _ _ (by omega)]
    unfold cHead; rw [if_pos hk, if_neg (by omega), show 1 + j - 1 = j by omega]
  have yh : ∀ j, Y (20 + j) = z (20 + j) := fun j => by
    rw [c2, show 20 + j = (19 + j) + 1 by omega, join_succ]
    have := body_hi S T (pHdr n z) n z j
    rw [hL] at this
    rw [this, show 19 + j + 1 = 20 + j by omega]
  have y2 : Y 2 = z 0 := yl 0 (by omega)
  have hfu : ∀ j, j < n → fullY n Y j = z j := fun j hj => by
    unfold fullY
    by_cases h18 : j < 18
    · rw [if_pos h18]; exact yl j h18
    · rw [if_neg h18]
      by_cases e18 : j = 18
      · rw [if_pos e18, e18, l18]
      · rw [if_neg e18]
        by_cases e19 : j = 19
        · rw [if_pos e19, e19, l19]
        · rw [if_neg e19]
          have := yh (j - 20)
          rwa [show 20 + (j - 20) = j by omega] at this
  have hE : xErr E n Y = 0 := by
    unfold xErr
    rw [if_neg (by omega), if_neg (by rw [f1]; omega), f1, if_neg (by show ¬ n < 20; omega), if_neg (by decide), if_pos rfl]
    unfold fuErr
    rw [if_neg (by rw [y2]; omega), if_neg (by omega)]
  refine ⟨hE, ?_, fun j hj => ?_, ?_⟩
  · unfold xLen
    rw [hE, f1, if_neg (by decide), if_neg (by decide), if_pos rfl]
  · unfold xY
    rw [f1, if_neg (by decide), if_pos rfl]
    exact hfu j hj
  · unfold xS
    rw [hE, f1, f2, if_neg (by decide), if_neg (by decide), if_pos rfl]
    have hx : pHdr n (fullY n Y) = pHdr n z := pHdr_congr n _ z hfu
    unfold fullC
    rw [hx, y1]
    have : cNew S T (pHdr n z) = fulled (cTurned S T (pHdr n z)) (pHdr n z 0) (pHdr n z 1) (pHdr n z 2) (pHdr n z 3) (pHdr n z 4) (pHdr n z 5) (pHdr n z 6) (pHdr n z 7) := by unfold cNew; rw [if_pos hk]
    rw [this]
    rfl
theorem flow_parts {a0 a1 a2 a3 a4 b0 b1 b2 b3 b4 : Int} (h : sameFlow a0 a1 a2 a3 a4 b0 b1 b2 b3 b4 = true) : a0 = b0 ∧ a1 = b1 ∧ a2 = b2 ∧ a3 = b3 ∧ a4 = b4 := by
  unfold sameFlow at h
  simpa only [Bool.and_eq_true, beq_iff_eq] using h
/-- bytes of a packet with a delta header -/
theorem delta_bytes (S : Nat → Rx) (T : Int) (n : Nat) (z : Nat → Int) (hp : pErr n z = 0) (hk : cKind S T (pHdr n z) = 1) :
    coLen S T n z = 6 + (n - 20) ∧ coY S T n z 1 = (cNew S T (pHdr n z)).gen ∧ coY S T n z 2 = kN (S (cPlace S (pHdr n z))) (pHdr n z 6) ∧ coY S T n z 3 = kT (S (cPlace S (pHdr n z))) (pHdr n z 7) / 256 ∧ coY S T n z 4 = kT (S (cPlace S (pHdr n z))) (pHdr n z 7) % 256 ∧ coY S T n z 5 = pHdr n z 5 ∧ ∀ j, coY S T n z (6 + j) = z (20 + j) := by
  obtain ⟨c1, c2, _⟩ := co_good S T n z hp
  have hL : cLen S T (pHdr n z) = 5 := by unfold cLen; rw [if_neg (by rw [hk]; decide), if_pos hk]
  have hH : ∀ j, j < 5 → coY S T n z (j + 1) = ([(cNew S T (pHdr n z)).gen, kN (cTurned S T (pHdr n z)) (pHdr n z 6), kT (cTurned S T (pHdr n z)) (pHdr n z 7) / 256, kT (cTurned S T (pHdr n z)) (pHdr n z 7) % 256, pHdr n z 5] : List Int).getD j 0 := fun j hj => by
    rw [c2, join_succ, body_lo _ _ _ _ _ _ (by omega)]
    unfold cHead; rw [if_neg (by rw [hk]; decide), if_pos hk]
  refine ⟨by rw [c1, hL]; omega, hH 0 (by omega), hH 1 (by omega), hH 2 (by omega), hH 3 (by omega), hH 4 (by omega), fun j => ?_⟩
  rw [c2, show 6 + j = (5 + j) + 1 by omega, join_succ]
  have := body_hi S T (pHdr n z) n z j
  rwa [hL] at this
theorem compact_bytes (S : Nat → Rx) (T : Int) (n : Nat) (z : Nat → Int) (hp : pErr n z = 0) (hk : cKind S T (pHdr n z) = 2) :
    coLen S T n z = 3 + (n - 20) ∧ coY S T n z 1 = (S (cPlace S (pHdr n z))).gen ∧ coY S T n z 2 = kN (S (cPlace S (pHdr n z))) (pHdr n z 6) ∧ ∀ j, coY S T n z (3 + j) = z (20 + j) := by
  obtain ⟨c1, c2, _⟩ := co_good S T n z hp
  have hL : cLen S T (pHdr n z) = 2 := by unfold cLen; rw [if_neg (by rw [hk]; decide), if_neg (by rw [hk]; decide)]
  have hH : ∀ j, j < 2 → coY S T n z (j + 1) = ([(cTurned S T (pHdr n z)).gen, kN (cTurned S T (pHdr n z)) (pHdr n z 6)] : List Int).getD j 0 := fun j hj => by
    rw [c2, join_succ, body_lo _ _ _ _ _ _ (by omega)]
    unfold cHead; rw [if_neg (by rw [hk]; decide), if_neg (by rw [hk]; decide)]
  refine ⟨by rw [c1, hL]; omega, hH 0 (by omega), hH 1 (by omega), fun j => ?_⟩
  rw [c2, show 3 + j = (2 + j) + 1 by omega, join_succ]
  have := body_hi S T (pHdr n z) n z j
  rwa [hL] at this
theorem new_one (S : Nat → Rx) (T : Int) (X : Nat → Int) (hk : cKind S T X = 1) : cNew S T X = begun (cTurned S T X) (X 5) (X 6) (X 7) (kT (S (cPlace S X)) (X 7) / kN (S (cPlace S X)) (X 6)) := by
  unfold cNew
  rw [if_neg (by rw [hk]; decide), if_pos hk]
  rfl
theorem new_two (S : Nat → Rx) (T : Int) (X : Nat → Int) (hk : cKind S T X = 2) : cNew S T X = cTurned S T X := by
  unfold cNew
  rw [if_neg (by rw [hk]; decide), if_neg (by rw [hk]; decide)]
theorem pHdr_range (n : Nat) (z : Nat → Int) : (0 ≤ pHdr n z 5 ∧ pHdr n z 5 < 256) ∧ (0 ≤ pHdr n z 6 ∧ pHdr n z 6 < 65536) ∧ (0 ≤ pHdr n z 7 ∧ pHdr n z 7 < 16777216) :=
  ⟨pHdr_lt n z 5, pHdr_lt n z 6, pHdr_lt n z 7⟩
theorem ex_delta (E : Nat → Ec) (S : Nat → Rx) (T : Int) (n : Nat) (z : Nat → Int) (hz : ∀ j, j < n → 0 ≤ z j ∧ z j < 256) (hp : pErr n z = 0) (hk : cKind S T (pHdr n z) = 1)
    (hg : (S (cPlace S (pHdr n z))).began = true) (he : E (cPlace S (pHdr n z)) = ecOf (S (cPlace S (pHdr n z)))) (hok : (S (cPlace S (pHdr n z))).Ok) :
    xErr E (coLen S T n z) (coY S T n z) = 0 ∧ xLen E (coLen S T n z) (coY S T n z) = n ∧ (∀ j, j < n → xY E (coLen S T n z) (coY S T n z) j = z j) ∧ xS E (coLen S T n z) (coY S T n z) = updE E (cPlace S (pHdr n z)) (ecOf (cNew S T (pHdr n z))) := by
  obtain ⟨h20, h9, _⟩ := pErr_good n z hp
  obtain ⟨f1, f2, f3⟩ := good_first S T n z hp
  obtain ⟨b0, b1, b2, b3, b4, b5, b6⟩ := delta_bytes S T n z hp hk
  obtain ⟨_, _, hfl, n1, n2⟩ := kind_used S T (pHdr n z) (by rw [hk]; decide)
  obtain ⟨g0, g1, g2, g3, g4⟩ := flow_parts hfl
  have ht := kind_one S T (pHdr n z) hk
  have hnew := new_one S T (pHdr n z) hk
  obtain ⟨r5, r6, r7⟩ := pHdr_range n z
  rw [hk] at f1
  obtain ⟨Y, hY⟩ : ∃ Y, Y = coY S T n z := ⟨_, rfl⟩
  rw [← hY] at f1 f2 f3 b1 b2 b3 b4 b5 b6 ⊢
  rw [b0]
  obtain ⟨x, hx⟩ : ∃ x, x = S (cPlace S (pHdr n z)) := ⟨_, rfl⟩
  have hgen : (cNew S T (pHdr n z)).gen = (x.gen + 1) % 256 := by
    rw [hnew, hx]
    show (if (S (cPlace S (pHdr n z))).began = true then ((S (cPlace S (pHdr n z))).gen + 1) % 256 else (S (cPlace S (pHdr n z))).gen) = _
    rw [if_pos hg]
  have hn' : kN x (pHdr n z 6) = kN (cTurned S T (pHdr n z)) (pHdr n z 6) := by rw [hx]; rfl
  rw [← hn'] at n1 n2
  rw [← hx] at b2 b3 b4 ht he hok g0 g1 g2 g3 g4
  have hT0 : 0 ≤ kT x (pHdr n z 7) := by unfold kT; omega
  have hE2 : deT Y = kT x (pHdr n z 7) := by unfold deT; rw [b3, b4]; omega
  have hC : deltaC (ecOf x) Y = ecOf (cNew S T (pHdr n z)) := by
    have e6 : (x.ident + Y 2) % 65536 = pHdr n z 6 := by rw [b2]; unfold kN; omega
    have e7 : (x.time + deT Y) % 16777216 = pHdr n z 7 := by rw [hE2]; unfold kT; omega
    have hnew' : ecOf (cNew S T (pHdr n z)) = ⟨pHdr n z 5, pHdr n z 6, pHdr n z 7, true, x.f0, x.f1, x.f2, x.f3, x.f4, (cNew S T (pHdr n z)).gen, kT x (pHdr n z 7) / kN x (pHdr n z 6)⟩ := by rw [hnew, hx]; rfl
    rw [hnew']
    show (⟨Y 5, (x.ident + Y 2) % 65536, (x.time + deT Y) % 16777216, true, x.f0, x.f1, x.f2, x.f3, x.f4, Y 1, deT Y / Y 2⟩ : Ec) = _
    rw [e6, e7, hE2, b1, b2, b5]
  have hac : acErr (E (xAt Y)) (6 + (n - 20)) Y 6 (xGen (E (xAt Y)) 1) = 0 := by
    rw [f2, he]
    unfold acErr xGen
    rw [if_neg (by rw [b2]; omega), if_neg (by omega), if_pos ⟨rfl, by rw [b1, hgen, if_pos rfl]; rfl⟩]
  have hE : xErr E (6 + (n - 20)) Y = 0 := by
    unfold xErr
    rw [if_neg (by omega), if_neg (by rw [f1]; omega), f1, if_neg (by show ¬ 6 + (n - 20) < 6; omega), if_neg (by decide), if_neg (by decide)]
    exact hac
  refine ⟨hE, ?_, fun j hj => ?_, ?_⟩
  · unfold xLen
    rw [hE, f1, if_neg (by decide), if_neg (by decide), if_neg (by decide), if_pos rfl]
    omega
  · unfold xY
    rw [f1, if_neg (by decide), if_neg (by decide), if_pos rfl, f2, he]
    unfold deltaY
    rw [hC]
    refine pkt_same n z hz hp _ _ ?_ (fun i _ => b6 i) j hj
    have q : ecOf (cNew S T (pHdr n z)) = ⟨pHdr n z 5, pHdr n z 6, pHdr n z 7, true, x.f0, x.f1, x.f2, x.f3, x.f4, (cNew S T (pHdr n z)).gen, kT x (pHdr n z 7) / kN x (pHdr n z 6)⟩ := by rw [hnew, hx]; rfl
    rw [q]
    exact hj_same _ _ _ _ _ n z hp (by omega) g0 g1 g2 g3 g4 rfl rfl rfl
  · unfold xS
    rw [hE, f1, f2, he, if_neg (by decide), if_neg (by decide), if_neg (by decide), if_pos rfl, hC]
theorem ex_compact (E : Nat → Ec) (S : Nat → Rx) (T : Int) (n : Nat) (z : Nat → Int) (hz : ∀ j, j < n → 0 ≤ z j ∧ z j < 256) (hp : pErr n z = 0) (hk : cKind S T (pHdr n z) = 2)
    (he : E (cPlace S (pHdr n z)) = ecOf (S (cPlace S (pHdr n z)))) (hok : (S (cPlace S (pHdr n z))).Ok) :
    xErr E (coLen S T n z) (coY S T n z) = 0 ∧ xLen E (coLen S T n z) (coY S T n z) = n ∧ (∀ j, j < n → xY E (coLen S T n z) (coY S T n z) j = z j) ∧ xS E (coLen S T n z) (coY S T n z) = E := by
  obtain ⟨h20, h9, _⟩ := pErr_good n z hp
  obtain ⟨f1, f2, f3⟩ := good_first S T n z hp
  obtain ⟨b0, b1, b2, b6⟩ := compact_bytes S T n z hp hk
  obtain ⟨_, _, hfl, n1, n2⟩ := kind_used S T (pHdr n z) (by rw [hk]; decide)
  obtain ⟨g0, g1, g2, g3, g4⟩ := flow_parts hfl
  obtain ⟨k5, k7⟩ := kind_two S T (pHdr n z) hk
  obtain ⟨r5, r6, r7⟩ := pHdr_range n z
  rw [hk] at f1
  obtain ⟨Y, hY⟩ : ∃ Y, Y = coY S T n z := ⟨_, rfl⟩
  rw [← hY] at f1 f2 f3 b1 b2 b6 ⊢
  rw [b0]
  obtain ⟨x, hx⟩ : ∃ x, x = S (cPlace S (pHdr n z)) := ⟨_, rfl⟩
  have hn' : kN x (pHdr n z 6) = kN (cTurned S T (pHdr n z)) (pHdr n z 6) := by rw [hx]; rfl
  rw [← hn'] at n1 n2
  rw [← hx] at b1 b2 he hok g0 g1 g2 g3 g4 k5 k7
  have hac : acErr (E (xAt Y)) (3 + (n - 20)) Y 3 (xGen (E (xAt Y)) 2) = 0 := by
    rw [f2, he]
    unfold acErr xGen
    rw [if_neg (by rw [b2]; omega), if_neg (by omega), if_pos ⟨rfl, by rw [b1, if_neg (by decide)]; rfl⟩]
  have hE : xErr E (3 + (n - 20)) Y = 0 := by
    unfold xErr
    rw [if_neg (by omega), if_neg (by rw [f1]; omega), f1, if_neg (by show ¬ 3 + (n - 20) < 3; omega), if_neg (by decide), if_neg (by decide)]
    exact hac
  refine ⟨hE, ?_, fun j hj => ?_, ?_⟩
  · unfold xLen
    rw [hE, f1, if_neg (by decide), if_neg (by decide), if_neg (by decide), if_neg (by decide)]
    omega
  · unfold xY
    rw [f1, if_neg (by decide), if_neg (by decide), if_neg (by decide), f2, he]
    unfold compactY
    refine pkt_same n z hz hp _ _ ?_ (fun i _ => b6 i) j hj
    have e6 : coI' (ecOf x) Y = pHdr n z 6 := by
      show (x.ident + Y 2) % 65536 = _
      rw [b2]; unfold kN; omega
    have e7 : coT' (ecOf x) Y = pHdr n z 7 := by
      show (x.time + Y 2 * x.step) % 16777216 = _
      rw [b2, Int.mul_comm]
      unfold kT at k7
      obtain ⟨q, hq⟩ : ∃ q, q = x.step * kN x (pHdr n z 6) := ⟨_, rfl⟩
      rw [← hq] at k7 ⊢
      have := hok.time
      omega
    rw [e6, e7]
    exact hj_same _ _ _ _ _ n z hp (by omega) g0 g1 g2 g3 g4 k5.symm rfl rfl
  · unfold xS
    rw [hE, f1, if_neg (by decide), if_neg (by decide), if_neg (by decide), if_neg (by decide)]
/-- a packet that does not fit the expander's context -/
theorem ex_off (E : Nat → Ec) (S : Nat → Rx) (T : Int) (n : Nat) (z : Nat → Int) (hp : pErr n z = 0) (hk : cKind S T (pHdr n z) ≠ 0)
    (he : ¬ ((E (cPlace S (pHdr n z))).valid = true ∧ coY S T n z 1 = xGen (E (cPlace S (pHdr n z))) (cKind S T (pHdr n z)))) :
    xErr E (coLen S T n z) (coY S T n z) = 11 ∧ xS E (coLen S T n z) (coY S T n z) = updE E (cPlace S (pHdr n z)) Ec.zero := by
  obtain ⟨h20, h9, _⟩ := pErr_good n z hp
  obtain ⟨f1, f2, f3⟩ := good_first S T n z hp
  obtain ⟨_, _, _, n1, n2⟩ := kind_used S T (pHdr n z) hk
  have n1' : 1 ≤ kN (S (cPlace S (pHdr n z))) (pHdr n z 6) := n1
  have hE : xErr E (coLen S T n z) (coY S T n z) = 11 := by
    rcases ckind_cases S T (pHdr n z) with h | h | h
    · exact absurd h hk
    · obtain ⟨b0, b1, b2, _⟩ := delta_bytes S T n z hp h
      unfold xErr
      rw [b0, if_neg (by omega), if_neg (by rw [f1]; omega), f1, f2, h, if_neg (by show ¬ 6 + (n - 20) < 6; omega), if_neg (by decide), if_neg (by decide)]
      unfold acErr
      rw [h] at he
      rw [if_neg (by rw [b2]; omega), if_neg (by show ¬ (8980 : Int) < ((6 + (n - 20) : Nat) : Int) - ((6 : Nat) : Int); omega), if_neg he]
    · obtain ⟨b0, b1, b2, _⟩ := compact_bytes S T n z hp h
      unfold xErr
      rw [b0, if_neg (by omega), if_neg (by rw [f1]; omega), f1, f2, h, if_neg (by show ¬ 3 + (n - 20) < 3; omega), if_neg (by decide), if_neg (by decide)]
      unfold acErr
      rw [h] at he
      rw [if_neg (by rw [b2]; omega), if_neg (by show ¬ (8980 : Int) < ((3 + (n - 20) : Nat) : Int) - ((3 : Nat) : Int); omega), if_neg he]
  refine ⟨hE, ?_⟩
  unfold xS
  rw [hE, f2, if_pos rfl]

/-- a context in use has begun -/
def Ub (S : Nat → Rx) : Prop := ∀ i, i < 16 → (S i).used = true → (S i).began = true
theorem ub_step (S : Nat → Rx) (T : Int) (n : Nat) (z : Nat → Int) (h : Ub S) : Ub (coS S T n z) := by
  by_cases hp : pErr n z = 0
  · rw [(co_good S T n z hp).2.2]
    intro i hi hu
    unfold cState upd at hu ⊢
    by_cases e : i = cPlace S (pHdr n z)
    · rw [if_pos e] at hu ⊢
      rcases ckind_cases S T (pHdr n z) with hk | hk | hk
      · unfold cNew; rw [if_pos hk]; rfl
      · rw [new_one S T _ hk]; rfl
      · rw [new_two S T _ hk] at hu ⊢
        exact h _ (cPlace_lt _ _) hu
    · rw [if_neg e] at hu ⊢; exact h i hi hu
  · unfold coS; rw [if_pos hp]; exact h
/-- nothing was lost -/
def Bk (S : Nat → Rx) (E : Nat → Ec) : Prop := ∀ i, i < 16 → (S i).used = true → E i = ecOf (S i)
theorem xFb_zero {E : Nat → Ec} {n : Nat} {z : Nat → Int} (h : xErr E n z = 0) : xFb E n z = 0 := by unfold xFb; rw [h]; rfl
theorem back_step (E : Nat → Ec) (S : Nat → Rx) (T : Int) (n : Nat) (z : Nat → Int) (h1 : 1 ≤ n) (h9 : n ≤ 9000) (hz : ∀ j, j < n → 0 ≤ z j ∧ z j < 256) (hok : ∀ i, i < 16 → (S i).Ok) (hub : Ub S) (hb : Bk S E) :
    xErr E (coLen S T n z) (coY S T n z) = 0 ∧ xLen E (coLen S T n z) (coY S T n z) = n ∧ (∀ j, j < n → xY E (coLen S T n z) (coY S T n z) j = z j) ∧ Bk (coS S T n z) (xS E (coLen S T n z) (coY S T n z)) := by
  by_cases hp : pErr n z = 0
  · have hlt := cPlace_lt S (pHdr n z)
    rw [(co_good S T n z hp).2.2]
    rcases ckind_cases S T (pHdr n z) with hk | hk | hk
    · obtain ⟨a, b, c, d⟩ := ex_full E S T n z hz hp hk
      refine ⟨a, b, c, ?_⟩
      rw [d]
      intro i hi hu
      unfold cState upd updE at *
      by_cases e : i = cPlace S (pHdr n z)
      · rw [if_pos e, if_pos e]
      · rw [if_neg e] at hu
        rw [if_neg e, if_neg e]; exact hb i hi hu
    · have hu0 := (kind_used S T (pHdr n z) (by rw [hk]; decide)).1
      obtain ⟨a, b, c, d⟩ := ex_delta E S T n z hz hp hk (hub _ hlt hu0) (hb _ hlt hu0) (hok _ hlt)
      refine ⟨a, b, c, ?_⟩
      rw [d]
      intro i hi hu
      unfold cState upd updE at *
      by_cases e : i = cPlace S (pHdr n z)
      · rw [if_pos e, if_pos e]
      · rw [if_neg e] at hu
        rw [if_neg e, if_neg e]; exact hb i hi hu
    · have hu0 := (kind_used S T (pHdr n z) (by rw [hk]; decide)).1
      obtain ⟨a, b, c, d⟩ := ex_compact E S T n z hz hp hk (hb _ hlt hu0) (hok _ hlt)
      refine ⟨a, b, c, ?_⟩
      rw [d]
      intro i hi hu
      unfold cState upd at *
      by_cases e : i = cPlace S (pHdr n z)
      · rw [if_pos e, e, new_two S T _ hk, hb _ hlt hu0]; rfl
      · rw [if_neg e] at hu
        rw [if_neg e]; exact hb i hi hu
  · obtain ⟨a, b, c, d, e⟩ := ex_raw E S T n z h1 h9 hp
    rw [d, e]
    exact ⟨a, b, c, hb⟩

/-- the expander's valid contexts are the compressor's of d generations ago -/
def Hd (S : Nat → Rx) (E : Nat → Ec) (k : Nat) : Prop := ∀ i, i < 16 → (E i).valid = true → (S i).used = true ∧ ∃ d : Nat, d ≤ k ∧ (S i).gen = ((E i).gen + d) % 256 ∧ (d = 0 → E i = ecOf (S i))
theorem holds_sent (E : Nat → Ec) (S : Nat → Rx) (T : Int) (n : Nat) (z : Nat → Int) (k : Nat) (hub : Ub S) (h : Hd S E k) : Hd (coS S T n z) E (k + 1) := by
  by_cases hp : pErr n z = 0
  · rw [(co_good S T n z hp).2.2]
    intro i hi hv
    obtain ⟨hu, d, hd, hg, h0⟩ := h i hi hv
    unfold cState upd
    by_cases e : i = cPlace S (pHdr n z)
    · rw [if_pos e]
      subst e
      have hgen : ∀ a b c s : Int, (begun (cTurned S T (pHdr n z)) a b c s).gen = ((S (cPlace S (pHdr n z))).gen + 1) % 256 := fun a b c s => by
        show (if (S (cPlace S (pHdr n z))).began = true then ((S (cPlace S (pHdr n z))).gen + 1) % 256 else (S (cPlace S (pHdr n z))).gen) = _
        rw [if_pos (hub _ hi hu)]
      rcases ckind_cases S T (pHdr n z) with hk | hk | hk
      · have hnew : cNew S T (pHdr n z) = fulled (cTurned S T (pHdr n z)) (pHdr n z 0) (pHdr n z 1) (pHdr n z 2) (pHdr n z 3) (pHdr n z 4) (pHdr n z 5) (pHdr n z 6) (pHdr n z 7) := by unfold cNew; rw [if_pos hk]
        rw [hnew]
        refine ⟨rfl, d + 1, by omega, ?_, fun h => absurd h (by omega)⟩
        show (begun (cTurned S T (pHdr n z)) (pHdr n z 5) (pHdr n z 6) (pHdr n z 7) 0).gen = _
        rw [hgen, hg]
        omega
      · rw [new_one S T _ hk]
        refine ⟨hu, d + 1, by omega, ?_, fun h => absurd h (by omega)⟩
        rw [hgen, hg]
        omega
      · rw [new_two S T _ hk]
        exact ⟨hu, d, by omega, hg, h0⟩
    · rw [if_neg e]
      exact ⟨hu, d, by omega, hg, h0⟩
  · unfold coS; rw [if_pos hp]
    intro i hi hv
    obtain ⟨hu, d, hd, hg, h0⟩ := h i hi hv
    exact ⟨hu, d, by omega, hg, h0⟩
/-- with the new state at place p -/
theorem hd_put (E : Nat → Ec) (S : Nat → Rx) (k p : Nat) (c : Ec) (h : Hd S E k) (hc : c.valid = true → (S p).used = true ∧ (0 ≤ c.gen ∧ c.gen < 256) ∧ c = ecOf (S p)) : Hd S (updE E p c) k := by
  intro i hi hv
  unfold updE at hv ⊢
  by_cases e : i = p
  · rw [if_pos e] at hv ⊢
    obtain ⟨a, r, b⟩ := hc hv
    subst e
    refine ⟨a, 0, by omega, ?_, fun _ => b⟩
    have : c.gen = (S i).gen := by rw [b]; rfl
    rw [this] at r ⊢
    omega
  · rw [if_neg e] at hv ⊢; exact h i hi hv
def HoldsEnd (E : Nat → Ec) (S : Nat → Rx) (T : Int) (n : Nat) (z : Nat → Int) (k : Nat) : Prop :=
  (xErr E (coLen S T n z) (coY S T n z) = 0 ∧ xLen E (coLen S T n z) (coY S T n z) = n ∧ (∀ j, j < n → xY E (coLen S T n z) (coY S T n z) j = z j) ∧ Hd (coS S T n z) (xS E (coLen S T n z) (coY S T n z)) (k + 1)) ∨
  (xErr E (coLen S T n z) (coY S T n z) = 11 ∧ (xKind (coY S T n z) = 1 ∨ xKind (coY S T n z) = 2) ∧ Hd (coS S T n z) (xS E (coLen S T n z) (coY S T n z)) (k + 1))
theorem holds_step (E : Nat → Ec) (S : Nat → Rx) (T : Int) (n : Nat) (z : Nat → Int) (k : Nat) (h1 : 1 ≤ n) (h9 : n ≤ 9000) (hz : ∀ j, j < n → 0 ≤ z j ∧ z j < 256) (hok : ∀ i, i < 16 → (S i).Ok) (hoe : ∀ i, i < 16 → (E i).Ok) (hub : Ub S) (hk80 : k ≤ 200) (h : Hd S E k) :
    HoldsEnd E S T n z k := by
  have hsent := holds_sent E S T n z k hub h
  by_cases hp : pErr n z = 0
  · have hlt := cPlace_lt S (pHdr n z)
    have hcs := (co_good S T n z hp).2.2
    have hok' := co_ok S T n z hok _ hlt
    have hat : coS S T n z (cPlace S (pHdr n z)) = cNew S T (pHdr n z) := by rw [hcs]; unfold cState upd; rw [if_pos rfl]
    obtain ⟨f1, f2, f3⟩ := good_first S T n z hp
    by_cases hk : cKind S T (pHdr n z) = 0
    · obtain ⟨a, b, c, d⟩ := ex_full E S T n z hz hp hk
      refine .inl ⟨a, b, c, ?_⟩
      rw [d]
      refine hd_put E _ (k + 1) _ _ hsent fun _ => ?_
      rw [hat] at hok' ⊢
      refine ⟨?_, hok'.gen, rfl⟩
      unfold cNew; rw [if_pos hk]; rfl
    · have hu0 := (kind_used S T (pHdr n z) hk).1
      by_cases hfit : (E (cPlace S (pHdr n z))).valid = true ∧ coY S T n z 1 = xGen (E (cPlace S (pHdr n z))) (cKind S T (pHdr n z))
      · obtain ⟨hv, hy⟩ := hfit
        obtain ⟨_, d, hd, hg, h0⟩ := h _ hlt hv
        have og := (hoe _ hlt).gen
        have sg := (hok _ hlt).gen
        have hbeg := hub _ hlt hu0
        rcases ckind_cases S T (pHdr n z) with hk' | hk' | hk'
        · exact absurd hk' hk
        · obtain ⟨_, y1, _⟩ := delta_bytes S T n z hp hk'
          have hgn : (cNew S T (pHdr n z)).gen = ((S (cPlace S (pHdr n z))).gen + 1) % 256 := by
            rw [new_one S T _ hk']
            show (if (S (cPlace S (pHdr n z))).began = true then ((S (cPlace S (pHdr n z))).gen + 1) % 256 else (S (cPlace S (pHdr n z))).gen) = _
            rw [if_pos hbeg]
          rw [y1, hgn, hk'] at hy
          unfold xGen at hy
          rw [if_pos rfl] at hy
          have d0 : d = 0 := by omega
          obtain ⟨a, b, c, e⟩ := ex_delta E S T n z hz hp hk' hbeg (h0 d0) (hok _ hlt)
          refine .inl ⟨a, b, c, ?_⟩
          rw [e]
          refine hd_put E _ (k + 1) _ _ hsent fun _ => ?_
          rw [hat] at hok' ⊢
          refine ⟨?_, hok'.gen, rfl⟩
          rw [new_one S T _ hk']; exact hu0
        · obtain ⟨_, y1, _⟩ := compact_bytes S T n z hp hk'
          rw [y1, hk'] at hy
          unfold xGen at hy
          rw [if_neg (by decide)] at hy
          have d0 : d = 0 := by omega
          obtain ⟨a, b, c, e⟩ := ex_compact E S T n z hz hp hk' (h0 d0) (hok _ hlt)
          refine .inl ⟨a, b, c, ?_⟩
          rw [e]
          exact hsent
      · obtain ⟨a, b⟩ := ex_off E S T n z hp hk hfit
        refine .inr ⟨a, ?_, ?_⟩
        · rw [f1]
          rcases ckind_cases S T (pHdr n z) with hk' | hk' | hk'
          · exact absurd hk' hk
          · exact .inl hk'
          · exact .inr hk'
        · rw [b]
          exact hd_put E _ (k + 1) _ _ hsent fun h => by cases h
  · obtain ⟨a, b, c, d, e⟩ := ex_raw E S T n z h1 h9 hp
    refine .inl ⟨a, b, c, ?_⟩
    rw [d]
    exact hsent
/-- a full header was asked for -/
def Ask (q : Nat → Int) (S : Nat → Rx) : Prop := ∀ i, i < 16 → q i = 1 → (S i).need = true
def askK (q : Nat → Int) (y : Nat → Int) : Nat → Int := fun i => if xKind y = 0 ∧ i = xAt y then 0 else q i
theorem ask_kind (q : Nat → Int) (S : Nat → Rx) (T : Int) (n : Nat) (z : Nat → Int) (h1 : 1 ≤ n) (h9 : n ≤ 9000) (h : Ask q S) : ¬ (xKind (coY S T n z) < 3 ∧ q (xAt (coY S T n z)) = 1 ∧ xKind (coY S T n z) ≠ 0) := by
  rintro ⟨a, b, c⟩
  by_cases hp : pErr n z = 0
  · obtain ⟨f1, f2, f3⟩ := good_first S T n z hp
    rw [f1] at c
    rw [f2] at b
    have := (kind_used S T (pHdr n z) c).2.1
    rw [h _ (cPlace_lt _ _) b] at this
    cases this
  · rw [(co_raw S T n z h1 h9 hp).2.1] at a
    have : xKind (joinY 192 z) = 3 := rfl
    omega
theorem ask_step (q : Nat → Int) (S : Nat → Rx) (T : Int) (n : Nat) (z : Nat → Int) (h1 : 1 ≤ n) (h9 : n ≤ 9000) (h : Ask q S) : Ask (askK q (coY S T n z)) (coS S T n z) := by
  by_cases hp : pErr n z = 0
  · obtain ⟨f1, f2, f3⟩ := good_first S T n z hp
    intro i hi hq
    unfold askK at hq
    rw [(co_good S T n z hp).2.2]
    unfold cState upd
    by_cases e : i = cPlace S (pHdr n z)
    · rw [if_pos e]
      exfalso
      by_cases hk : cKind S T (pHdr n z) = 0
      · rw [if_pos ⟨by rw [f1]; exact hk, by rw [f2]; exact e⟩] at hq
        exact absurd hq (by decide)
      · rw [if_neg (by rw [f1]; exact fun h => hk h.1)] at hq
        have := (kind_used S T (pHdr n z) hk).2.1
        rw [← e, h i hi hq] at this
        cases this
    · rw [if_neg e]
      refine h i hi ?_
      split at hq
      · exact absurd hq (by decide)
      · exact hq
  · intro i hi hq
    unfold coS; rw [if_pos hp]
    refine h i hi ?_
    unfold askK at hq
    split at hq
    · exact absurd hq (by decide)
    · exact hq
theorem need_feed (S : Nat → Rx) (y : Nat → Int) (p : Nat) (hp : p < 16) (hy : y 0 = 160 + (p : Int)) : feedErr y 1 = 0 ∧ feedS S y 1 = needS S p := by
  have hb : anyBad y 1 = false := by
    unfold anyBad
    rw [decide_eq_false_iff_not]
    simp only [firstBad]
    rw [if_pos (by rw [hy]; omega)]
    decide
  have h16 : (y 0).toNat % 16 = p := by rw [hy]; omega
  refine ⟨by unfold feedErr; rw [hb]; rfl, ?_⟩
  unfold feedS
  rw [hb, if_neg (by decide)]
  show needS S ((y 0).toNat % 16) = _
  rw [h16]
theorem ub_need (S : Nat → Rx) (p : Nat) (h : Ub S) : Ub (needS S p) := by
  intro i hi hu
  unfold needS upd at hu ⊢
  by_cases e : i = p
  · rw [if_pos e] at hu ⊢; subst e; exact h i hi hu
  · rw [if_neg e] at hu ⊢; exact h i hi hu
theorem hd_need (E : Nat → Ec) (S : Nat → Rx) (k p : Nat) (h : Hd S E k) : Hd (needS S p) E k := by
  intro i hi hv
  have := h i hi hv
  unfold needS upd
  by_cases e : i = p
  · rw [if_pos e]; subst e; exact this
  · rw [if_neg e]; exact this
theorem ask_need (q : Nat → Int) (S : Nat → Rx) (p : Nat) (h : Ask q S) : Ask (fun i => if i = p then 1 else q i) (needS S p) := by
  intro i hi hq
  unfold needS upd
  by_cases e : i = p
  · rw [if_pos e]
  · rw [if_neg e]
    simp only [if_neg e] at hq
    exact h i hi hq
theorem ok_need (S : Nat → Rx) (p : Nat) (h : ∀ i, i < 16 → (S i).Ok) : ∀ i, i < 16 → (needS S p i).Ok := by
  intro i hi
  unfold needS upd
  by_cases e : i = p
  · rw [if_pos e]; subst e
    have := h i hi
    exact ⟨this.hops, this.ident, this.time, this.gen, this.step⟩
  · rw [if_neg e]; exact h i hi
/-- bytes of a packet with a full header -/
theorem full_bytes (S : Nat → Rx) (T : Int) (n : Nat) (z : Nat → Int) (hp : pErr n z = 0) (hk : cKind S T (pHdr n z) = 0) :
    coLen S T n z = n ∧ coY S T n z 1 = (cNew S T (pHdr n z)).gen ∧ (∀ j, j < 18 → coY S T n z (2 + j) = z j) ∧ ∀ j, coY S T n z (20 + j) = z (20 + j) := by
  obtain ⟨h20, h9, _⟩ := pErr_good n z hp
  obtain ⟨c1, c2, _⟩ := co_good S T n z hp
  have hL : cLen S T (pHdr n z) = 19 := by unfold cLen; rw [if_pos hk]
  refine ⟨by rw [c1, hL]; omega, ?_, fun j hj => ?_, fun j => ?_⟩
  · rw [c2, join_succ, body_lo _ _ _ _ _ _ (by omega)]
    unfold cHead; rw [if_pos hk, if_pos rfl]
  · rw [c2, show 2 + j = (1 + j) + 1 by omega, join_succ, body_lo _ _ _ _ _ _ (by omega)]
    unfold cHead; rw [if_pos hk, if_neg (by omega), show 1 + j - 1 = j by omega]
  · rw [c2, show 20 + j = (19 + j) + 1 by omega, join_succ]
    have := body_hi S T (pHdr n z) n z j
    rw [hL] at this
    rw [this, show 19 + j + 1 = 20 + j by omega]
theorem coY_zero (S : Nat → Rx) (T : Int) (n : Nat) (z : Nat → Int) : 0 ≤ coY S T n z 0 ∧ coY S T n z 0 < 256 := by
  by_cases hp : pErr n z = 0
  · have h := cPlace_lt S (pHdr n z)
    have e : coY S T n z 0 = 64 * cKind S T (pHdr n z) + 4 * (cPlace S (pHdr n z) : Int) := by rw [(co_good S T n z hp).2.1]; rfl
    rw [e]
    rcases ckind_cases S T (pHdr n z) with hk | hk | hk <;> rw [hk] <;> omega
  · have e : coY S T n z 0 = 192 := by unfold coY; rw [if_pos hp]; rfl
    rw [e]; decide
theorem coY_byte (S : Nat → Rx) (T : Int) (n : Nat) (z : Nat → Int) (h1 : 1 ≤ n) (h9 : n ≤ 9000) (hz : ∀ j, j < n → 0 ≤ z j ∧ z j < 256) (hok : ∀ i, i < 16 → (S i).Ok) : ∀ j, j < coLen S T n z → 0 ≤ coY S T n z j ∧ coY S T n z j < 256 := by
  intro j hj
  by_cases j0 : j = 0
  · rw [j0]; exact coY_zero S T n z
  by_cases hp : pErr n z = 0
  · obtain ⟨h20, _, _⟩ := pErr_good n z hp
    have hg := (co_ok S T n z hok _ (cPlace_lt S (pHdr n z))).gen
    have hat : coS S T n z (cPlace S (pHdr n z)) = cNew S T (pHdr n z) := by rw [(co_good S T n z hp).2.2]; unfold cState upd; rw [if_pos rfl]
    rw [hat] at hg
    have hg0 := (hok _ (cPlace_lt S (pHdr n z))).gen
    obtain ⟨r5, _, _⟩ := pHdr_range n z
    rcases ckind_cases S T (pHdr n z) with hk | hk | hk
    · obtain ⟨b0, b1, b2, b3⟩ := full_bytes S T n z hp hk
      by_cases j1 : j = 1
      · rw [j1, b1]; exact hg
      · by_cases j20 : j < 20
        · have := b2 (j - 2) (by omega)
          rw [show 2 + (j - 2) = j by omega] at this
          rw [this]; exact hz _ (by omega)
        · have := b3 (j - 20)
          rw [show 20 + (j - 20) = j by omega] at this
          rw [this]; exact hz _ (by omega)
    · obtain ⟨b0, b1, b2, b3, b4, b5, b6⟩ := delta_bytes S T n z hp hk
      obtain ⟨_, _, _, n1, n2⟩ := kind_used S T (pHdr n z) (by rw [hk]; decide)
      have n1' : 1 ≤ kN (S (cPlace S (pHdr n z))) (pHdr n z 6) := n1
      have n2' : kN (S (cPlace S (pHdr n z))) (pHdr n z 6) ≤ 255 := n2
      have ht := kind_one S T (pHdr n z) hk
      have hT0 : 0 ≤ kT (S (cPlace S (pHdr n z))) (pHdr n z 7) := by unfold kT; omega
      by_cases j6 : j < 6
      · have hj5 : j = 1 ∨ j = 2 ∨ j = 3 ∨ j = 4 ∨ j = 5 := by omega
        rcases hj5 with rfl | rfl | rfl | rfl | rfl
        · rw [b1]; exact hg
        · rw [b2]; omega
        · rw [b3]; omega
        · rw [b4]; omega
        · rw [b5]; exact r5
      · have := b6 (j - 6)
        rw [show 6 + (j - 6) = j by omega] at this
        rw [this]; exact hz _ (by omega)
    · obtain ⟨b0, b1, b2, b6⟩ := compact_bytes S T n z hp hk
      obtain ⟨_, _, _, n1, n2⟩ := kind_used S T (pHdr n z) (by rw [hk]; decide)
      have n1' : 1 ≤ kN (S (cPlace S (pHdr n z))) (pHdr n z 6) := n1
      have n2' : kN (S (cPlace S (pHdr n z))) (pHdr n z 6) ≤ 255 := n2
      by_cases j3 : j < 3
      · have hj2 : j = 1 ∨ j = 2 := by omega
        rcases hj2 with rfl | rfl
        · rw [b1]; exact hg0
        · rw [b2]; omega
      · have := b6 (j - 3)
        rw [show 3 + (j - 3) = j by omega] at this
        rw [this]; exact hz _ (by omega)
  · obtain ⟨c1, c2, _⟩ := co_raw S T n z h1 h9 hp
    rw [c1] at hj
    rw [c2, show j = (j - 1) + 1 by omega, join_succ]
    exact hz _ (by omega)
theorem coLen_in (S : Nat → Rx) (T : Int) (n : Nat) (z : Nat → Int) (h1 : 1 ≤ n) (h9 : n ≤ 9000) : 1 ≤ coLen S T n z ∧ coLen S T n z ≤ 9001 := by
  by_cases hp : pErr n z = 0
  · obtain ⟨h20, _, _⟩ := pErr_good n z hp
    rcases ckind_cases S T (pHdr n z) with hk | hk | hk
    · have := (full_bytes S T n z hp hk).1; omega
    · have := (delta_bytes S T n z hp hk).1; omega
    · have := (compact_bytes S T n z hp hk).1; omega
  · have := (co_raw S T n z h1 h9 hp).1; omega
end Go.Proofs.Ytofaghpflmeblaa
